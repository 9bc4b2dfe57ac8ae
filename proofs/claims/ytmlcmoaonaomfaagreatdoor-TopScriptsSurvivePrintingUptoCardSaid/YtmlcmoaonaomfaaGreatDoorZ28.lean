/- slices.Concat at fields (after slices.Concat at periods). -/
import Derived.Shelf.Spec.SlicesGrow
import Derived.Test.YtmlcmoaonaomfaaGreatDoorZ27
import Derived.Lib.AtoiAllCases
import Derived.Shelf.Vars
import Derived.HandedShaped
import Derived.ChangeMaps5
import Derived.Deep.DeepHandedRow
import Derived.Lib.LaidU8
import Derived.Lib.LaidIn
namespace Go.Proofs.YtmlcmoaonaomfaaGreatDoor
open Go.RowKit
abbrev Fd:=BA×BA
def encF (x:Fd):List Value:=[.string x.1,.string x.2]
def fdC (x:Fd):List C:=[.str x.1,.str x.2]
def flC (l:List Fd):List (List C):=l.map fdC
def lsC (ls:List (List Fd)):List (List C):=ls.map λl=>[.sl (flC l)]
theorem qio {l:List Fd}:∀ e∈flC l,e.length=2:=λe he=>by obtain ⟨x,_,rfl⟩:=List.mem_map.1 he;rfl
theorem qip {l:List Fd} {i:Nat} {e:List C} (h:(flC l)[i]?=some e):∃ x,l[i]?=some x/\e=[.str x.1,.str x.2]:=by
 rw [flC,x14q] at h;cases hx:l[i]? with
 |none=>rw [hx] at h;cases h
 |some x=>rw [hx] at h;injection h with h;exact ⟨x,rfl,h.symm⟩
theorem qj3:∀ {e:List C},fldB e=true->∃ x,e=fdC x
 |[.str a,.str b],_=>⟨(a,b),rfl⟩
theorem qj5:∀ {xs:List (List C)},xs.all fldB=true->∃ l,xs=flC l
 |[],_=>⟨[],rfl⟩
 |e::xs,h=>by rw [x17q,x6q] at h;obtain ⟨x,rfl⟩:=qj3 h.1;obtain ⟨l,rfl⟩:=qj5 h.2;exact ⟨x::l,rfl⟩
theorem q9h:∀ {es r:List (List C)},catL es=some r->∃ ls,es=lsC ls/\r=flC ls.flatten
 |[],r,h=>by injection h with h;subst h;exact ⟨[],rfl,rfl⟩
 |e::es,r,h=>by
  unfold catL at h;split at h
  ·rename_i e1;cases e1
  ·rename_i xs r' e1
   injection e1 with e1 e2;subst e1 e2;split at h
   case isFalse=>cases h
   rename_i hx;obtain ⟨l,rfl⟩:=qj5 hx;cases hq:catL es with
   |none=>rw [hq] at h;cases h
   |some q =>
    rw [hq] at h;injection h with h
    obtain ⟨ls,rfl,rfl⟩:=q9h hq;refine ⟨l::ls,rfl,?_⟩;rw [←h];simp [flC]
  ·cases h
theorem q1hj {α:Type} {l:List α} {k:Nat} (h:k<l.length):l.take (k+1)=l.take k++[l[k]]:=by rw [List.take_add_one,y1q h];rfl
def upTo (ls:List (List Fd)) (i:Nat):Nat:=(ls.take i).flatten.length
theorem q1is (ls:List (List Fd)) {i:Nat} (h:i<ls.length):upTo ls (i+1)=upTo ls i+ls[i].length:=by unfold upTo;rw [q1hj h,List.flatten_append,x12q];simp only [List.flatten_cons,List.flatten_nil,List.append_nil]
theorem q1ir (ls:List (List Fd)) {i:Nat} (_h:i<=ls.length):upTo ls i<=ls.flatten.length:=by
 unfold upTo
 conv=>rhs;rw [←List.take_append_drop i ls,List.flatten_append,x12q]
 omega
structure Lists (W:World) (A:Oq Addr) (n:Nat) (ls:List (List Fd)) (V:Nat->Value):Prop where
 len:ls.length=n
 at_:∀ i (h:i<ls.length),∃ b off Ai ci,A=some ⟨b,off,none⟩/\W.cell? ⟨b,off+i,none⟩=some (V i)/\V i=.slice Ai ls[i].length ci /\
  ((ls[i]=[] )∨∃ bi oi,Ai=some ⟨bi,oi,none⟩/\∀ (j:Nat) (x:Fd),ls[i][j]?=some x->W.cell? ⟨bi,oi+j*2,none⟩=some (.string x.1)/\W.cell? ⟨bi,oi+(j*2+1),none⟩=some (.string x.2))
theorem qrx {W:World} {Z:ZMap} (hZ:∀ b o u,Z b o=some u->W.cell? ⟨b,o,none⟩=some u) {u:Value} {ls:List (List Fd)} (h:RepC Z u (.sl (lsC ls))):∃ A c V,u=.slice A ls.length c/\ls.length<=c/\c<=maxLen/\(A=none->c=0)/\Lists W A ls.length ls V:=by
 cases h with
 |sl A n c k b off U es hl hc hm hk hA hz hr hN =>
  rw [lsC,y36q] at hl;subst hl;refine ⟨A,c,λi=>U (i*k+0),rfl,hc,hm,hN,rfl,λi hi=>?_⟩;have he:(lsC ls)[i]?=some [.sl (flC ls[i])]:=by rw [lsC,x14q,y1q hi];rfl
  have hne:lsC ls≠[]:=by intro e;rw [e] at he;simp at he
  have hk1:k=1:=(hk _ (y10q he)).symm;subst hk1;have hcell:=hZ _ _ _ (hz i _ 0 _ he rfl)
  have hrep:=hr i _ 0 _ he rfl;have ha:=hA hne
  rw [show i*1+0=i by omega] at hcell hrep ⊢
  generalize U i=v at hcell hrep;cases hrep with
  |sl Ai ni ci ki bi oi Ui esi hli hci hmi hki hAi hzi hri hNi =>
   rw [flC,y36q] at hli;subst hli;refine ⟨b,off,Ai,ci,ha,hcell,rfl,?_⟩;by_cases h0:ls[i]=[]
   ·exact .inl h0
   ·right
    have hne:flC ls[i]≠[]:=by intro e;exact h0 (List.map_eq_nil_iff.1 e)
    obtain ⟨e0,es0,hes⟩:=List.exists_cons_of_ne_nil hne;have hk2:ki=2:=by
     rw [←hki e0 (by rw [hes];simp)]
     exact qio e0 (by rw [hes];simp)
    subst hk2;refine ⟨bi,oi,hAi hne,λj x hx=>?_⟩;have hej:(flC ls[i])[j]?=some [.str x.1,.str x.2]:=by rw [flC,x14q,hx];rfl
    have z0:=hZ _ _ _ (hzi j _ 0 _ hej rfl);have z1:=hZ _ _ _ (hzi j _ 1 _ hej rfl)
    have r0:=hri j _ 0 _ hej rfl;have r1:=hri j _ 1 _ hej rfl
    generalize Ui (j*2+0)=v0 at z0 r0;generalize Ui (j*2+1)=v1 at z1 r1;cases r0;cases r1;exact ⟨z0,z1⟩
def Grows (W w:World) (v:Value) (tot:Nat) (l:List Fd):Prop :=
 (tot=0/\v=.slice none 0 0/\l=[])∨∃ g c t cur,v=.slice (some ⟨g,0,none⟩) l.length c/\W.heap.size<=g/\tot<=c/\c<=maxLen/\l.length<=tot/\0<tot/\w.heap[g]?=some (.cells cur t (0,0))/\cur.size=c*2 /\
  ∀ (i:Nat) (x:Fd),l[i]?=some x->cur[i*2]?=some (.string x.1)/\cur[i*2+1]?=some (.string x.2)
theorem qjy (o:Nat):∀ (l:List Value) (i:Nat) (arr:Array Value) (q:Nat),q<o+i->((l.zipIdx i).foldl (λ(cs:Array Value) (p:Value×Nat)=>cs.setIfInBounds (o+p.2) p.1) arr)[q]?=arr[q]?
 |[],_,_,_,_=>rfl
 |v::l,i,arr,q,h=>by
  rw [List.zipIdx_cons,List.foldl_cons,qjy o l (i+1) _ q (by omega)]
  simp only;rw [y11q (by omega)]
theorem qkz (o:Nat):∀ (l:List Value) (i:Nat) (arr:Array Value),((l.zipIdx i).foldl (λ(cs:Array Value) (p:Value×Nat)=>cs.setIfInBounds (o+p.2) p.1) arr).size=arr.size
 |[],_,_=>rfl
 |v::l,i,arr=>by rw [List.zipIdx_cons,List.foldl_cons,qkz o l (i+1)];simp
theorem belF {W w w':World} {g:Nat} (hb:Bel W w) (hg:W.heap.size<=g) (h:Wr g w w'):Bel W w':=⟨h.os.trans hb.os,h.tape.trans hb.tape,h.output.trans hb.output,by rw [h.size];exact hb.size,λk hk=>(h.block k (by omega)).trans (hb.block k hk)⟩
theorem qk6 (o:Nat):∀ (l:List Value) (i:Nat) (arr:Array Value) (q:Nat),i<=q->q<i+l.length->o+q<arr.size->((l.zipIdx i).foldl (λ(cs:Array Value) (p:Value×Nat)=>cs.setIfInBounds (o+p.2) p.1) arr)[o+q]?=l[q - i]?
 |[],i,arr,q,h1,h2,_=>by simp at h2;omega
 |v::l,i,arr,q,h1,h2,h3=>by
  rw [List.zipIdx_cons,List.foldl_cons];by_cases e:q=i
  ·subst e
   rw [qjy o l (q+1) _ (o+q) (by omega)]
   simp [h3]
  ·rw [qk6 o l (i+1) _ q (by omega) (by simp at h2;omega) (by simp;omega)]
   rw [show q - i=(q - (i+1))+1 by omega,List.getElem?_cons_succ]
def flatF (l:List Fd):List Value:=l.flatMap encF
theorem qix (l:List Fd):(flatF l).length=l.length*2:=by
 induction l with
 |nil=>rfl
 |cons x l ih =>have:flatF (x::l)=encF x++flatF l:=rfl;rw [this,x12q,ih];simp [encF];omega
theorem qiw:∀ (l:List Fd) (j:Nat) (x:Fd),l[j]?=some x->(flatF l)[j*2]?=some (.string x.1)/\(flatF l)[j*2+1]?=some (.string x.2)
 |[],j,x,h=>by simp at h
 |y::l,0,x,h=>by simp at h;subst h;exact ⟨rfl,rfl⟩
 |y::l,j+1,x,h=>by
  simp at h;have ih:=qiw l j x h
  have e:flatF (y::l)=encF y++flatF l:=rfl;rw [e];rw [show (j+1)*2=(encF y).length+j*2 by simp [encF];omega,show (encF y).length+j*2+1=(encF y).length+(j*2+1) by omega]
  rw [y39q (by omega),y39q (by omega)]
  simp only [Nat.add_sub_cancel_left];exact ih
theorem qiv {W:World} {l:List Fd} {bi oi:Nat} (h:∀ (j:Nat) (x:Fd),l[j]?=some x->W.cell? ⟨bi,oi+j*2,none⟩=some (.string x.1)/\W.cell? ⟨bi,oi+(j*2+1),none⟩=some (.string x.2)):∀ (j:Nat) u,(flatF l)[j]?=some u->W.cell? ⟨bi,oi+j,none⟩=some u:=by
 intro j u hu;have hj:j<l.length*2:=by rw [←qix];exact (y2q.1 hu).1
 have hj2:j / 2<l.length:=by omega
 obtain ⟨c1,c2⟩:=h (j / 2) l[j / 2] (y1q hj2);obtain ⟨f1,f2⟩:=qiw l (j / 2) l[j / 2] (y1q hj2);rcases (show j=j / 2*2∨j=j / 2*2+1 by omega) with e|e
 ·rw [←e] at c1 f1;rw [f1] at hu;injection hu with hu;rw [c1,hu]
 ·rw [←e] at c2 f2;rw [f2] at hu;injection hu with hu;rw [c2,hu]
theorem qme {W w:World} {v:Value} {tot:Nat} {l xs:List Fd} (h:Grows W w v tot l) (hb:Bel W w) (hroom:l.length+xs.length<=tot) {Ai:Oq Addr} {ci:Nat}
  (hx:xs=[]∨∃ bi oi,Ai=some ⟨bi,oi,none⟩/\∀ (j:Nat) (x:Fd),xs[j]?=some x->W.cell? ⟨bi,oi+j*2,none⟩=some (.string x.1)/\W.cell? ⟨bi,oi+(j*2+1),none⟩=some (.string x.2)) :
  ∃ v' w',(∀ ty,(Builtin.append_ #[25,25] ty #[v,.slice Ai xs.length ci]).run Tryz.prog w=.ok v' w')/\Bel W w'/\Grows W w' v' tot (l++xs):=by
 obtain ⟨i0,hi,hi2⟩:∃ i0,Tryz.prog.info? 71=some i0/\i0.size=2:=by
  have h:=Tryz.sizeOf71 w;unfold Go.sizeOf at h;cases hi:Tryz.prog.info? 71 with
  |none=>simp [typeInfo,hi] at h
  |some i0 =>simp [typeInfo,hi] at h;exact ⟨i0,rfl,h⟩
 have hfirst:(Builtin.firstCells 2 xs.length (.slice Ai xs.length ci)).run Tryz.prog w=.ok (flatF xs).toArray w:=by
  refine q1bw (flatF xs) (qix xs) ?_;rcases hx with rfl|⟨bi,oi,hA,hc⟩
  ·exact .inl ⟨rfl,.inr (by simp)⟩
  ·by_cases h0:xs=[]
   ·subst h0;exact .inl ⟨rfl,.inr (by simp)⟩
   ·right
    refine ⟨bi,oi,hA,λj u hu=>?_⟩;have:=qiv hc j u hu
    rw [hb.cell _ (q9s this)];exact this
 rw [←hi2] at hfirst;rcases h with ⟨rfl,rfl,rfl⟩|⟨g,c,t,cur,rfl,hg,hc,hm,hle,hp,hv,hs,hcur⟩
 ·have:xs=[]:=y5q (by omega)
  subst this;exact ⟨.slice none 0 0,w,λty=>q1bv Tryz.underlying25 (.inl ⟨_,_,_,Tryz.underlying25,rfl⟩) hi (by simp) hfirst rfl,hb,.inl ⟨rfl,rfl,rfl⟩⟩
 ·obtain ⟨w',r1,r2,r3⟩:=q1c8 (P:=Tryz.prog) (g:=g) (o:=l.length*2) (flatF xs) 0 w cur hv (λu hu=>by
   unfold flatF at hu;obtain ⟨x,_,hu⟩:=List.mem_flatMap.1 hu;simp [encF] at hu;rcases hu with rfl|rfl <;> rfl) (by rw [qix,hs];omega) (by simp)
  refine ⟨.slice (some ⟨g,0,none⟩) (l.length+xs.length) c,w',λty=>?_,belF hb hg r2,.inr ⟨g,c,t,_,by rw [x12q],hg,hc,hm,by rw [x12q];exact hroom,hp,r3,by rw [qkz,hs],λi x hx'=>?_⟩⟩
  ·refine q1bv Tryz.underlying25 (.inl ⟨_,_,_,Tryz.underlying25,rfl⟩) hi (by omega) hfirst ?_
   rw [hi2];have e:(Addr.add ⟨g,0,none⟩ (l.length*2))=⟨g,l.length*2,none⟩:=by unfold Addr.add;split <;> simp_all
   simp only [e];exact r1
  ·rcases y30q i l.length with h1|h1
   ·rw [y42q h1] at hx'
    rw [qjy _ _ _ _ _ (by omega),qjy _ _ _ _ _ (by omega)]
    exact hcur i x hx'
   ·rw [y39q h1] at hx'
    have hi':i - l.length<xs.length:=(y2q.1 hx').1;obtain ⟨f1,f2⟩:=qiw xs _ x hx';have e1:i*2=l.length*2+(i - l.length)*2:=by omega
    have e2:i*2+1=l.length*2+((i - l.length)*2+1):=by omega
    rw [e1,show l.length*2+(i - l.length)*2+1=l.length*2+((i - l.length)*2+1) by omega]
    rw [qk6 _ _ 0 _ _ (by omega) (by rw [qix];omega) (by rw [hs];omega),qk6 _ _ 0 _ _ (by omega) (by rw [qix];omega) (by rw [hs];omega)]
    exact ⟨f1,f2⟩
end Go.Proofs.YtmlcmoaonaomfaaGreatDoor
namespace Go.Proofs.YtmlcmoaonaomfaaGreatDoor
open Go.Shelf
def qma:Go.Shelf.Ren:=⟨λ|4=>87|n=>n,λ|22=>25|25=>71|3=>3|4=>4|9=>9|20=>20|0=>0|n=>n,λ|n=>n⟩
theorem growP:Lays8.n4 Tryz.prog qma:={
 mixed:=by kernel_rfl
 f4:=⟨Tryz.f87.name,by decide,Tryz.func87.trans (congrArg some (by kernel_rfl))⟩
 t0:=Tryz.underlying0
 a0:=Tryz.isAgg0
 z0:=Tryz.sizeOf0
 v0:=Tryz.zeroValue0
 t3:=Tryz.underlying3
 a3:=Tryz.isAgg3
 z3:=Tryz.sizeOf3
 v3:=Tryz.zeroValue3
 t4:=Tryz.underlying4
 a4:=Tryz.isAgg4
 z4:=Tryz.sizeOf4
 v4:=Tryz.zeroValue4
 t9:=Tryz.underlying9
 a9:=Tryz.isAgg9
 z9:=Tryz.sizeOf9
 v9:=Tryz.zeroValue9
 t20:=Tryz.underlying20
 a20:=Tryz.isAgg20
 z20:=Tryz.sizeOf20
 v20:=Tryz.zeroValue20
 t22:=Tryz.underlying25
 a22:=Tryz.isAgg25
 z22:=Tryz.sizeOf25
 v22:=Tryz.zeroValue25 }
end Go.Proofs.YtmlcmoaonaomfaaGreatDoor
namespace Go.Proofs.YtmlcmoaonaomfaaGreatDoor
open Go.RowKit
theorem fldInfo:∃ i0 z,Tryz.prog.info? 71=some i0/\i0.size=2/\i0.zero=some z/\z.cells.size=2/\i0.bytes=32:=by
 have h1:=sz71;have h2:=by71
 have h3:=zo71;unfold szO at h1;unfold byO at h2;unfold zOk at h3;cases hi:Tryz.prog.info? 71 with
 |none=>rw [hi] at h1;cases h1
 |some i0 =>
  rw [hi] at h1 h2 h3;simp only [x18q,y19q,y45q] at h1 h2 h3;cases hz:i0.zero with
  |none=>rw [hz] at h3;cases h3
  |some z =>rw [hz] at h3;simp only [x18q,y19q] at h3;exact ⟨i0,z,rfl,h1,hz,by rw [h3,h1],h2⟩
theorem qmb {W w:World} (hb:Bel W w) (tot:Nat) (ht:tot<=1000000):Calls Tryz.prog 87 #[.slice none 0 0,.int .i64 tot] w λe w'=>∃ v,e=.returned v/\Bel W w'/\Grows W w' v tot []:=by
 by_cases h0:tot=0
 ·subst h0
  refine (Any8.slices_Grow_room growP none 0 0 0 w (by omega) (by omega) (by omega) (by omega)).mono ?_
  rintro e w' ⟨rfl,rfl⟩;exact ⟨_,rfl,hb,.inl ⟨rfl,rfl,rfl⟩⟩
 ·obtain ⟨i0,z,hi,hs,hz,hzs,hby⟩:=fldInfo
  refine (Any8.slices_Grow_grow growP i0 z hi hz (by omega) none 0 0 tot [] w (by omega) (by omega) (by rw [hby];omega) (by omega) (by simp) (λ_=>rfl) (by simp)).mono ?_
  have hge:0+tot<=grownCap w (0+tot) 0 71:=grownCap_ge w _ _ _;have hle:=grownCap_le_maxLen w (0+tot) 0 71 (by unfold maxLen;omega)
  rintro e w' ⟨rfl,rfl⟩;refine ⟨_,rfl,?_,.inr ⟨w.heap.size,grownCap w (0+tot) 0 71,71,_,rfl,hb.size,by omega,hle,Nat.zero_le _,by omega,heap_alloc_new w.drew _,?_,by simp⟩⟩
  ·exact (Bel.refl w |> hb.trans).drew.alloc _
  ·show ((([]:List Value).toArray++Builtin.zeroCells z.cells (0+tot - 0))++Builtin.zeroCells z.cells (grownCap w (0+tot) 0 71 - (0+tot))).size=_
   simp only [Array.size_append,q1kj,hzs];generalize grownCap w (0+tot) 0 71=G at *;simp;omega
theorem q1jk {P:Program} {w w':World} {ops:Array Oper} {rest:List Oper} {o:Oper} {a:Act} {Q:Exit->Act->World->Prop}
  (hg:o.guard=none) (s x:Operand) (t tx:TypeId) (hop:o.op=Op.call { callee:=Callee.builtin Builtin.append,args:=#[s,x],argTypes:=#[t,tx] })
  {v xv v':Value} (hs:a.eval s=v) (hx:a.eval x=xv) (hrun:(Builtin.append_ #[t,tx] o.type #[v,xv]).run P w=.ok v' w')
  (hK:wpList P ops Q rest (a.put o.dst v') w'):wpList P ops Q (o::rest) a w:=by
 refine wpList_plain hg λK hK'=>?_;unfold Oper.wp;simp [execOp,hop,resolve,invoke,builtin,hs,hx,hrun,Result.andThen];exact hK' _ _ hK
set_option maxHeartbeats 4000000 in
set_option maxRecDepth 1000000 in
theorem q9j {W:World} {A:Oq Addr} {c:Nat} {ls:List (List Fd)} {V:Nat->Value} (hL:Lists W A ls.length ls V) (hc:ls.length<=c) (hm:c<=maxLen) (ht:ls.flatten.length<=1000000) :
  Calls Tryz.prog 53 #[.slice A ls.length c] W λe w'=>∃ v,e=.returned v/\Bel W w'/\Grows W w' v ls.flatten.length ls.flatten:=by
 have hn:ls.length<=9223372036854775807:=by unfold maxLen at hm;omega
 generalize hN:ls.length=n at *;have HL:Aside (Lists W A n ls V):=hL
 have HT:Aside (ls.flatten.length<=1000000):=ht;have HN:Aside (ls.length=n):=hN
 have hup:∀ i,i<=n->upTo ls i<=ls.flatten.length:=λi hi=>q1ir ls (by omega)
 have HU:Aside _:=hup;clear hL ht hN hup hm
 go_enter Tryz.func53,Tryz.ntmps53
 go_wp2
 go_loopg [3,11] n (λgg s3 s11 wr=>∃ i:Nat,s3=.int .i64 (upTo ls i:Nat)/\s11=.int .i64 (i:Nat)/\i<=n/\n - i<=gg/\wr=W)
 case atStart=>exact ⟨0,by simp [upTo],rfl,by omega,by omega,rfl⟩
 case round =>
  obtain ⟨i,rfl,rfl,hin,hgg,hwr⟩:=hrel;have hwr':=hwr.symm
  clear hwr;subst hwr';by_cases hlt:i<n
  ·have hltz:(i:Int)<(n:Int):=by omega
   have hils:i<ls.length:=by rw [HN.out];exact hlt
   obtain ⟨b,off,Ai,ci,hA,hcell,hVi,_⟩:=HL.out.at_ i hils;have hsz:upTo ls i+ls[i].length<=1000000:=by
    have h1:=HU.out (i+1) (by omega)
    rw [q1is ls hils] at h1;have:=HT.out
    omega
   rw [hVi] at hcell;subst hA;have hgr:=HU.out
   have c1:(0:Int)<=(upTo ls i:Nat):=by omega
   have hw1:wrap64 (((upTo ls i:Nat):Int)+(ls[i].length:Nat))=((upTo ls (i+1):Nat):Int):=by rw [q1is ls hils];unfold wrap64;omega
   have hw2:wrap64 ((i:Int)+1)=((i+1:Nat):Int):=by unfold wrap64;omega
   have c2:¬ ((upTo ls (i+1):Nat):Int)<0:=by omega
   clear hVi hgr hsz
   go_wp2
   go_roundg (n - (i+1))
   case measure=>omega
   case rel=>exact ⟨i+1,rfl,rfl,by omega,Nat.le_refl _,rfl⟩
  ·obtain rfl:i=n:=by omega
   have hltz:¬ (i:Int)<(i:Int):=by omega
   have etot:upTo ls i=ls.flatten.length:=by unfold upTo;rw [←HN.out,List.take_length]
   rw [etot];have hgrow:=qmb (Bel.refl W) ls.flatten.length HT.out
   have ET:Aside (upTo ls i=ls.flatten.length):=etot;generalize hF:ls.flatten.length=tot at *;have HF:Aside (ls.flatten.length=tot):=hF
   clear etot hF
   go_wp2_with (go_at_call 87;refine hgrow.mono ?_;rintro e w1 ⟨v1,rfl,hb1,hg1⟩)
   have HG:Aside _:=hg1;have HB:Aside _:=hb1
   clear hg1 hb1 hgrow
   go_loopg [6,27] i (λgg s6 s27 wq=>∃ k:Nat,s27=.int .i64 (k:Nat)/\k<=i/\i - k<=gg/\Aside (Bel W wq/\Grows W wq s6 tot (ls.take k).flatten))
   case atStart=>exact ⟨0,rfl,by omega,by omega,HB.out,HG.out⟩
   case round =>
    obtain ⟨k,rfl,hki,hgg2,hinv⟩:=hrel;obtain ⟨hbq,hgq⟩:=hinv.out;by_cases hlt2:k<i
    ·have hltz2:(k:Int)<(i:Int):=by omega
     have hils:k<ls.length:=by rw [HN.out];exact hlt2
     obtain ⟨b,off,Ai,ci,hA,hcell,hVi,hx⟩:=HL.out.at_ k hils;have hroom:(ls.take k).flatten.length+ls[k].length<=tot:=by
      have h1:=HU.out (k+1) (by omega)
      rw [q1is ls hils] at h1;exact h1
     have hcell2:wr.cell? ⟨b,off+k,none⟩=some (V k):=by rw [hbq.cell _ (q9s hcell)];exact hcell
     subst hA;obtain ⟨v',w',happ,hb',hg'⟩:=qme hgq hbq hroom (ci:=ci) hx;rw [←hVi] at happ;have hone:(V k).oneCell'=true:=by rw [hVi];rfl
     have hcls:(V k).cells=#[V k]:=by rw [hVi];rfl
     generalize V k=sv at hcell2 happ hone hcls;have enx:(ls.take (k+1)).flatten=(ls.take k).flatten++ls[k]:=by rw [q1hj hils,List.flatten_append];simp
     rw [←enx] at hg';have HI:Aside (Bel W w'/\Grows W w' v' tot (ls.take (k+1)).flatten):=⟨hb',hg'⟩
     have hw2:wrap64 ((k:Int)+1)=((k+1:Nat):Int):=by unfold wrap64;omega
     have HA:Aside (∀ ty,(Builtin.append_ #[25,25] ty #[u6,sv]).run Tryz.prog wr=.ok v' w'):=happ;clear hVi hcell hx hbq hgq hinv hb' hg' enx hroom happ
     go_wp2_with (at_builtin;refine q1jk rfl (.tmp 31) (.tmp 32) 25 25 rfl rfl rfl (HA.out _) ?_)
     go_roundg (i - (k+1))
     case measure=>omega
     case rel=>exact ⟨k+1,rfl,by omega,Nat.le_refl _,HI⟩
    ·obtain rfl:k=i:=by omega
     have hltz2:¬ (k:Int)<(k:Int):=by omega
     have etk:(ls.take k).flatten=ls.flatten:=by rw [←HN.out,List.take_length]
     rw [etk] at hgq;have HI:Aside (Bel W wr/\Grows W wr u6 tot ls.flatten):=⟨hbq,hgq⟩
     clear hbq hgq hinv etk
     go_wp2
     go_ret
     have:=HI.out;rw [←HF.out] at this;exact ⟨u6,rfl,this.1,by simpa using this.2⟩
theorem cat_ok (ls:List (List Fd)) (ht:ls.flatten.length<=1000000):CallOk Tryz.prog 53 [.c (.sl (lsC ls))] (.row 0 ls.flatten.length,[.row (flC ls.flatten)]):=by
 refine ⟨rfl,(λb hb=>⟨_,by simpa using hb⟩),λW Z Y cargs hG hZ hY hs hr=>?_⟩
 have hs1:cargs.size=1:=hs;obtain ⟨u,hu⟩:∃ u,cargs[0]?=some u:=⟨cargs[0]'(by omega),y3q _⟩
 have r0:=hr 0 u _ hu rfl;cases r0 with
 |c r0 =>
 obtain rfl:cargs=#[u]:=by
  apply Array.ext (by simpa using hs1)
  intro i h1 h2;have:i=0:=by simp at h2;omega
  subst this;rw [y3q h1] at hu;injection hu
 obtain ⟨A,c,V,rfl,hc,hm,hN,hL⟩:=qrx hZ r0;refine (q9j hL hc hm ht).mono λe w'=>?_;rintro ⟨v,rfl,hb,hg⟩;generalize ls.flatten=F at *;have hZ':∀ b o u,Z b o=some u->w'.cell? ⟨b,o,none⟩=some u:=λb o u h=>by have:=hZ b o u h;rw [hb.cell _ (q9s this)];exact this
 rcases hg with ⟨h0,rfl,hF⟩|⟨g,c',t,cur,rfl,hgb,hc',hm',hle,hp,hv,hcs,hcur⟩
 ·rw [hF]
  refine ⟨_,Z,λi=>if i=0 then some (.slice none 0 0) else none,rfl,ZUp.refl,⟨q1je.2 hb,⟨hG,GB.no⟩,hZ',(λ_ _ _ h=>by cases h),?_,?_,?_,?_,?_⟩,.row 0 0 none 0 (by simp) (by simp),?_⟩
  ·intro id cs h
   cases id <;> simp at h
  ·intro id es h
   cases id with
   |zero=>simp [flC] at h;subst h;exact .inl ⟨by simp,rfl⟩
   |succ id=>simp at h
  ·intro id es q v h
   cases id <;> simp at h
  ·intro id l h
   cases id <;> simp at h
  ·intro id id' g _ _ h
   unfold blkOf at h;by_cases h0:id=0 <;> simp [h0] at h
  ·intro i h
   by_cases h0:i=0
   ·subst h0;simp
   ·simp [h0] at h
 ·refine ⟨_,Z,λi=>if i=0 then some (.slice (some ⟨g,0,none⟩) F.length c') else none,rfl,ZUp.refl,⟨q1je.2 hb,⟨hG,GB.no⟩,hZ',(λ_ _ _ h=>by cases h),?_,?_,?_,?_,?_⟩,.row 0 F.length _ c' (by simp) (λ_=>⟨g,rfl⟩),?_⟩
  ·intro id cs h
   cases id <;> simp at h
  ·intro id es h
   cases id with
   |succ id=>simp at h
   |zero =>
    simp at h;subst h;refine .inr ⟨g,F.length,c',2,by simp,⟨.inl hgb,⟨t,(0,0),cur,hv,hcs,by simp,λi e j x h1 h2=>?_⟩,by simp [flC],by omega,hm',by decide,λh=>?_,qio,(λo ho=>?_)⟩⟩
    ·obtain ⟨y,hy,rfl⟩:=qip h1
     obtain ⟨c1,c2⟩:=hcur i y hy
     match j with
     |0=>simp at h2;subst h2;exact ⟨_,c1,.str _⟩
     |1=>simp at h2;subst h2;exact ⟨_,c2,.str _⟩
     |j+2=>simp at h2
    ·exact absurd h (by omega)
    ·cases hzz:Z g o with
     |none=>exact absurd hzz ho
     |some u=>have:=q9s (hZ g o u hzz);omega
  ·intro id es q v h
   cases id <;> simp at h
  ·intro id l h
   cases id <;> simp at h
  ·intro id id' g' h1 h2 _ _
   cases id with
   |succ id=>simp at h1
   |zero=>cases id' with
    |succ id'=>simp at h2
    |zero=>rfl
  ·intro i h
   by_cases h0:i=0
   ·subst h0;simp
   ·simp [h0] at h
theorem q9i {es r:List (List C)} (h:catP es=some r):CallOk Tryz.prog 53 [.c (.sl es)] (.row 0 r.length,[.row r]):=by
 unfold catP at h;cases hq:catL es with
 |none=>rw [hq] at h;cases h
 |some q =>
 rw [hq] at h;simp only [x0q] at h;split at h
 case isFalse=>cases h
 rename_i hc;injection h with h
 subst h;obtain ⟨ls,rfl,rfl⟩:=q9h hq;have hl:(flC ls.flatten).length=ls.flatten.length:=y36q _
 rw [hl] at hc ⊢;exact cat_ok ls hc
theorem bel_of {w w':World} (h:Below w.heap.size w w'):Bel w w':=⟨h.os,h.tape,h.output,h.size,h.block⟩
theorem gw_ml {w:World} (h:GW w):∃ m,w.cell? ⟨0,0,none⟩=some (.int .i64 m):=by unfold GW at h;exact h.1
theorem gw_bel {w w':World} (h:GW w) (hb:Bel w w'):GW w':=BelA.gw (q1je.2 hb) ⟨h,GB.no⟩
theorem gw_pow {w : World} (h : GW w) : Lib.TabIs Tryz.prog w "internal/strconv.uint64pow10" .u64 Lib.pow10Tab := by
 unfold GW at h;obtain ⟨_,⟨t,fz,h⟩,_⟩:=h
 have hn : Tryz.prog.globalNamed "internal/strconv.uint64pow10" = some 1 := by kernel_rfl
 unfold Lib.TabIs World.var?;rw [hn];simp only [x0q,h]
theorem gw_syn {w:World} (h:GW w):∃ ev,w.cell? ⟨6,0,none⟩=some ev/\(ev=.nilIface∨∃ te pe,ev=.iface te pe):=by unfold GW at h;exact h.2.2.1
theorem gw_ran {w:World} (h:GW w):∃ ev,w.cell? ⟨7,0,none⟩=some ev/\(ev=.nilIface∨∃ te pe,ev=.iface te pe):=by unfold GW at h;exact h.2.2.2.1
theorem q10m {w w':World} {Z:ZMap} (hG:GW w) (hb:Bel w w') (hZ:∀ b o u,Z b o=some u->w.cell? ⟨b,o,none⟩=some u):Rel (wb w) Z (λ_ _=>none) (λ_=>none) (λi=>([]:List B)[i]?) (λ_=>false) w' :=
 ⟨q1je.2 hb,⟨hG,GB.no⟩,λb o u h=>by rw [hb.cell _ (q9s (hZ _ _ _ h))];exact hZ _ _ _ h,(λ_ _ _ h=>by cases h),by simp,by simp,by simp,by simp,by simp⟩
theorem args1 {cargs:Array Value} {a:V} {Z Y:ZMap} (hs:cargs.size=1) (hr:∀ (i:Nat) u x,cargs[i]?=some u->[a][i]?=some x->Rep Z Y noM u x):∃ u,cargs=#[u]/\Rep Z Y noM u a:=by
 refine ⟨cargs[0]'(by omega),?_,hr 0 _ _ (y3q _) rfl⟩
 apply Array.ext (by simpa using hs)
 intro i h1 h2;have:i=0:=by omega
 subst this;rfl
theorem args2 {cargs:Array Value} {a b:V} {Z Y:ZMap} (hs:cargs.size=2) (hr:∀ (i:Nat) u x,cargs[i]?=some u->[a,b][i]?=some x->Rep Z Y noM u x):∃ u v,cargs=#[u,v]/\Rep Z Y noM u a/\Rep Z Y noM v b:=by
 refine ⟨cargs[0]'(by omega),cargs[1]'(by omega),?_,hr 0 _ _ (y3q _) rfl,hr 1 _ _ (y3q _) rfl⟩
 apply Array.ext (by simpa using hs)
 intro i h1 h2
 match i,h1 with
 |0,_=>rfl
 |1,_=>rfl
 |i+2,h1=>omega
theorem q95 {f:FuncId} {args:List V} {x:V} (ho:okRes x=true) (h:∀ (w:World) (Z Y:ZMap) (cargs:Array Value),GW w->(∀ b o u,Z b o=some u->w.cell? ⟨b,o,none⟩=some u)->cargs.size=args.length->(∀ (i:Nat) u x,cargs[i]?=some u->args[i]?=some x->Rep Z Y noM u x) ->
  Calls Tryz.prog f cargs w λe w'=>∃ cv,e=.returned cv/\Bel w w'/\∀ (Z:ZMap) Y,Rep Z Y noM cv x):CallOk Tryz.prog f args (x,[]):=by
 refine ⟨ho,(λb hb=>by cases hb),λw Z Y cargs hG hZ hY hs hr=>(h w Z Y cargs hG hZ hs hr).mono λe w'=>?_⟩
 rintro ⟨cv,rfl,hb,r⟩;exact ⟨cv,Z,λ_=>none,rfl,ZUp.refl,q10m hG hb hZ,r _ _,λi h=>absurd rfl h⟩
theorem qq7 (n : Int) (h0 : -9223372036854775808 ≤ n) (h1 : n ≤ 9223372036854775807) (w : World) (ht : Lib.TabIs Tryz.prog w "internal/strconv.uint64pow10" .u64 Lib.pow10Tab) :
  Calls Tryz.prog 67 #[.int .i64 n] w λe w'=>e=.returned (.string ⟨(Lib.itoa n).toArray⟩)/\Bel w w':=(Any.strconv_Itoa laysM171 n h0 h1 w ht).mono λe w'=>by
 rintro ⟨rfl,k,os,rfl⟩;refine ⟨rfl,rfl,rfl,rfl,?_,λk hk=>?_⟩
 ·show w.heap.size<=(w.heap++os).size
  rw [Array.size_append];omega
 ·show (w.heap++os)[k]?=_
  rw [y23q hk]
theorem nv_app (a:List UInt8) (c:UInt8):nvL (a++[c])=10*nvL a+(c.toNat - 48):=by simp [nvL,List.foldl_append]
theorem nv_dec (n:Nat):nvL (Lib.decDigits n)=n:=by
 induction n using Nat.strongRecOn with
 |_ n ih =>
  rw [Lib.decDigits];split
  ·rename_i h
   simp only [nvL,List.foldl_cons,List.foldl_nil];rw [y47q];omega
  ·rename_i h
   rw [nv_app,ih (n / 10) (by omega),y47q]
   omega
theorem pu_app (c:UInt8):∀ (l:List UInt8) (acc u:Nat),Lib.parseUint10 acc l=.ok u->Lib.parseUint10 acc (l++[c])=Lib.parseUint10 u [c]
 |[],acc,u,h=>by
  simp only [Lib.parseUint10] at h;injection h with h
  rw [h];rfl
 |d::l,acc,u,h=>by
  simp only [Lib.parseUint10,y8q] at h ⊢;split at h
  ·rename_i h1
   rw [if_pos h1];split at h;· cases h
   rename_i h2;rw [if_neg h2];split at h;· cases h
   rename_i h3;rw [if_neg h3];rw [pu_app c l _ u h];simp only [Lib.parseUint10]
  ·cases h
theorem pu_dec (n:Nat) (hn:n<=9223372036854775807):Lib.parseUint10 0 (Lib.decDigits n)=.ok n:=by
 induction n using Nat.strongRecOn with
 |_ n ih =>
  rw [Lib.decDigits];split
  ·rename_i h
   have e:(UInt8.ofNat (48+n)).toNat=48+n:=by rw [y47q];omega
   simp only [Lib.parseUint10,e];rw [if_pos (by omega),if_neg (by omega),if_neg (by omega)]
   congr 1;omega
  ·rename_i h
   have e:(UInt8.ofNat (48+n % 10)).toNat=48+n % 10:=by rw [y47q];omega
   rw [pu_app _ _ _ _ (ih (n / 10) (by omega) (by omega))]
   simp only [Lib.parseUint10,e];rw [if_pos (by omega),if_neg (by omega),if_neg (by omega)]
   congr 1;omega
theorem qaw (n:Nat):∃ c r,Lib.decDigits n=c::r/\48<=c.toNat:=by
 induction n using Nat.strongRecOn with
 |_ n ih =>
  rw [Lib.decDigits];split
  ·rename_i h
   refine ⟨_,_,rfl,?_⟩;rw [y47q];omega
  ·rename_i h
   obtain ⟨c,r,h1,h2⟩:=ih (n / 10) (by omega)
   rw [h1];exact ⟨c,_,rfl,h2⟩
theorem q5e (n:Nat) (hn:n<=9223372036854775807):Lib.atoiAll (Lib.decDigits n)=.ok (n:Int):=by
 obtain ⟨c,r,h1,h2⟩:=qaw n;have h3:=pu_dec n hn
 rw [h1] at h3 ⊢;rw [Lib.atoiAll_plain c r (by omega) (by omega)]
 unfold Lib.parseMag;rw [if_neg (by simp),h3]
 have e:¬ 9223372036854775808<=n:=by omega
 simp only [Lib.signless,if_neg e]
theorem ba_eq {s t:BA}:s=t ↔ s.data.toList=t.data.toList:=⟨λh=>by rw [h],λh=>ByteArray.ext (y34q.1 h)⟩
theorem qvc {s:BA} {v:Int} (h:Lib.atoiAll s.data.toList=.ok v) (most:Int) (hm:most<=9223372036854775807) :
  (if s.data.toList=Lib.decDigits (nvL s.data.toList)/\(nvL s.data.toList:Int)<=most then ((nvL s.data.toList:Int),true) else (0,false)) =
  (if Lib.itoa v=s.data.toList/\0<=v/\v<=most then (v,true) else (0,false)):=by
 by_cases hc:Lib.itoa v=s.data.toList/\0<=v/\v<=most
 ·rw [if_pos hc]
  obtain ⟨h1,h2,h3⟩:=hc;have e:Lib.itoa v=Lib.decDigits v.toNat:=by unfold Lib.itoa;rw [if_neg (by omega)]
  rw [e] at h1;rw [←h1,nv_dec,if_pos ⟨rfl,by omega⟩]
  congr 1;omega
 ·rw [if_neg hc,if_neg ?_]
  rintro ⟨h1,h2⟩;rw [h1] at h;rw [q5e _ (by omega)] at h
  injection h with h;subst h;refine hc ⟨?_,by omega,h2⟩
  unfold Lib.itoa;rw [if_neg (by omega),x3q]
  exact h1.symm
theorem qvb {s:BA} (h:∀ v,Lib.atoiAll s.data.toList≠.ok v) (most:Int) (hm:most<=9223372036854775807) :
  (if s.data.toList=Lib.decDigits (nvL s.data.toList)/\(nvL s.data.toList:Int)<=most then ((nvL s.data.toList:Int),true) else (0,false))=(0,false):=by
 rw [if_neg];rintro ⟨h1,h2⟩;have:=h (nvL s.data.toList)
 rw [h1] at this;rw [nv_dec] at this;exact this (q5e _ (by omega))
theorem q7p (w:World) (e:TypeId) (t:BA):Bel w (Lib.bytesWorld w e t):=⟨rfl,rfl,rfl,by rw [Lib.bytesWorld_size];omega,λk hk=>Lib.bytesWorld_at_old w e t k hk⟩
set_option maxRecDepth 100000 in
set_option maxHeartbeats 1600000 in
theorem qvg (s:BA) (most:Int) (w:World) (hG:GW w) (r:Int×Bool) (hr:numP s most=some r) :
  Calls Tryz.prog 135 #[.string s,.int .i64 most] w λe w'=>e=.returned (.tuple #[.int .i64 r.1,.bool r.2])/\Bel w w':=by
 unfold numP at hr;split at hr
 case isFalse=>cases hr
 rename_i hsm;obtain ⟨hs,hm⟩:=hsm;injection hr with hr
 obtain ⟨es,hes,hes2⟩:=gw_syn hG;obtain ⟨er,her,her2⟩:=gw_ran hG;cases ha:Lib.atoiAll s.data.toList with
 |ok v =>
  rw [qvc ha most hm] at hr;obtain ⟨hv0,hv1⟩:=Lib.atoiAll_bounds ha
  have hat:Calls Tryz.prog 156 #[.string s] w λe w'=>e=.returned (.tuple #[.int .i64 v,.nilIface])/\Bel w w':=(Any.strconv_Atoi_ok laysC172 s (by omega) v ha w).mono λe w' h=>⟨h.1,by
   rcases h.2 with h|⟨t,h⟩
   ·rw [h];exact Bel.refl _
   ·rw [h];exact q7p _ _ _⟩
  by_cases h1:Lib.itoa v=s.data.toList
  ·have hse:(⟨(Lib.itoa v).toArray⟩:BA)=s:=by rw [ba_eq];simpa using h1
   by_cases h2:0<=v
   ·by_cases h3:v<=most
    ·rw [if_pos ⟨h1,h2,h3⟩] at hr
     subst hr
     go_enter Tryz.func135,Tryz.ntmps135
     go_wp2_with (first|(go_at_call 156;refine hat.mono ?_;rintro e w1 ⟨rfl,hb1⟩)|(go_at_call 67;refine (qq7 v hv0 hv1 _ (gw_pow (gw_bel hG hb1))).mono ?_;rintro e w2 ⟨rfl,hb2⟩;rw [hse]))
     go_ret2
     exact ⟨rfl,hb1.trans hb2⟩
    ·rw [if_neg (λh=>h3 h.2.2)] at hr
     subst hr;have h3':most<v:=by omega
     go_enter Tryz.func135,Tryz.ntmps135
     go_wp2_with (first|(go_at_call 156;refine hat.mono ?_;rintro e w1 ⟨rfl,hb1⟩)|(go_at_call 67;refine (qq7 v hv0 hv1 _ (gw_pow (gw_bel hG hb1))).mono ?_;rintro e w2 ⟨rfl,hb2⟩;rw [hse]))
     go_ret2
     exact ⟨rfl,hb1.trans hb2⟩
   ·rw [if_neg (λh=>h2 h.2.1)] at hr
    subst hr;have h2':v<0:=by omega
    go_enter Tryz.func135,Tryz.ntmps135
    go_wp2_with (first|(go_at_call 156;refine hat.mono ?_;rintro e w1 ⟨rfl,hb1⟩)|(go_at_call 67;refine (qq7 v hv0 hv1 _ (gw_pow (gw_bel hG hb1))).mono ?_;rintro e w2 ⟨rfl,hb2⟩;rw [hse]))
    go_ret2
    exact ⟨rfl,hb1.trans hb2⟩
  ·rw [if_neg (λh=>h1 h.1)] at hr
   subst hr;have h1':¬ Lib.itoa v=s.toList:=by rw [ByteArray.toList_eq];exact h1
   go_enter Tryz.func135,Tryz.ntmps135
   go_wp2_with (first|(go_at_call 156;refine hat.mono ?_;rintro e w1 ⟨rfl,hb1⟩)|(go_at_call 67;refine (qq7 v hv0 hv1 _ (gw_pow (gw_bel hG hb1))).mono ?_;rintro e w2 ⟨rfl,hb2⟩))
   go_ret2
   exact ⟨rfl,hb1.trans hb2⟩
 |range =>
  rw [qvb (by rw [ha];intro v h;cases h) most hm] at hr
  subst hr;have hat:=Any.strconv_Atoi_range laysC172 s (by omega) ha er w her her2
  go_enter Tryz.func135,Tryz.ntmps135
  go_wp2_with (go_at_call 156;refine hat.mono ?_;rintro e w' ⟨N,rfl,hN,_,hB⟩)
  go_ret2
  exact ⟨rfl,bel_of hB⟩
 |_ =>
  rw [qvb (by rw [ha];intro v h;cases h) most hm] at hr
  subst hr;have hat:=Any.strconv_Atoi_syntax laysC172 s (by omega) ha es w hes hes2
  go_enter Tryz.func135,Tryz.ntmps135
  go_wp2_with (go_at_call 156;refine hat.mono ?_;rintro e w' ⟨N,rfl,hN,_,hB⟩)
  go_ret2
  exact ⟨rfl,bel_of hB⟩
theorem q10v (l:List UInt8):∀ n:Nat,Lib.repeatL l n=(List.replicate n l).flatten
 |0=>rfl
 |n+1=>by rw [Lib.repeatL,q10v l n,List.replicate_succ,List.flatten_cons]
theorem q112 (s:BA) (n:Int) (r:BA) (hr:repP s n=some r) (w:World) :
  Calls Tryz.prog 62 #[.string s,.int .i64 n] w λe w'=>e=.returned (.string r)/\Bel w w':=by
 unfold repP at hr;split at hr
 case isFalse=>cases hr
 rename_i hc;injection hr with hr
 subst hr;obtain ⟨h0,h1,h2⟩:=hc;obtain ⟨k,rfl⟩:∃ k:Nat,n=k:=⟨n.toNat,(Int.toNat_of_nonneg h0).symm⟩;have hb:s.size*k<=140737488355328:=by
  have:=Nat.mul_le_mul h2 (show k<=1000000 by omega)
  omega
 refine (Any.strings_Repeat lays105 qa s k w (by omega) hb).mono λe w' h=>⟨?_,bel_of h.2⟩
 rw [h.1,q10v,x3q]
theorem q1ex:∀ {es:List (List C)} {l:List BA},strsOf es=some l->es=l.map λs=>[C.str s]
 |[],l,h=>by injection h with h;subst h;rfl
 |e::es,l,h=>by
  unfold strsOf at h;split at h
  ·rename_i e1;cases e1
  ·rename_i s l' e1
   injection e1 with e1 e2;subst e1 e2;cases hq:strsOf es with
   |none=>rw [hq] at h;cases h
   |some q =>
    rw [hq] at h;injection h with h
    subst h;rw [q1ex hq];rfl
  ·cases h
theorem qqh (es:List (List C)) (l:List BA) (sep r:BA) (he:strsOf es=some l) (hr:joinP l sep=some r) (w:World) (Z:ZMap) (hZ:∀ b o u,Z b o=some u->w.cell? ⟨b,o,none⟩=some u) (v:Value) (hv:RepC Z v (.sl es)) :
  Calls Tryz.prog 50 #[v,.string sep] w λe w'=>e=.returned (.string r)/\Bel w w':=by
 unfold joinP at hr;split at hr
 case isFalse=>cases hr
 rename_i hc;injection hr with hr
 subst hr;have hes:=q1ex he
 subst hes;cases hv with
 |sl A n c k b off U _ hl hc2 hm hk hA hz hrr hN =>
  rw [y36q] at hl;cases l with
  |nil =>
   simp only [x8q] at hl;subst hl;refine (Any.strings_Join_none lays156 qb A c sep w).mono λe w' h=>⟨?_,by rw [h.2];exact Bel.refl _⟩
   rw [h.1];rfl
  |cons x l =>
   have hA':=hA (by simp)
   subst hA' hl;have hk1:k=1:=(hk [C.str x] (by simp)).symm
   subst hk1;have hcell:∀ (j:Nat) y,(x::l)[j]?=some y->w.cell? ⟨b,off+j,none⟩=some (.string y):=λj y hy=>by
    have e1:((x::l).map λs=>[C.str s])[j]?=some [C.str y]:=by rw [x14q,hy];rfl
    have h1:=hz j _ 0 _ e1 rfl;have h2:=hrr j _ 0 _ e1 rfl
    have h3:=hZ _ _ _ h1;rw [Nat.mul_one,Nat.add_zero] at h3 h2;cases hU:U j with
    |string q=>rw [hU] at h2 h3;cases h2;exact h3
    |_=>rw [hU] at h2;cases h2
   refine (Any.strings_Join lays156 qb b off c (x::l) sep w hcell (q9s (hcell 0 x rfl)) hc.2 hc2 hc.1).mono λe w' h=>⟨h.1,bel_of h.2⟩
theorem q9f (l:List UInt8):decide (0<=Lib.indexAny l crlf0)=l.any λb=>crlf0.contains b:=by
 induction l with
 |nil=>rfl
 |cons b l ih =>
  rw [List.any_cons,Lib.indexAny,←ih];cases crlf0.contains b with
  |true=>rfl
  |false =>
   have:=Lib.indexAny_ge crlf0 l;by_cases h:Lib.indexAny l crlf0=-1
   ·rw [h];rfl
   ·have h2:(Lib.indexAny l crlf0==-1)=false:=by simpa using h
    simp only [h2,x1q,x21q,Bool.false_or];rw [Bool.eq_iff_iff];simp;omega
set_option maxRecDepth 100000 in
theorem q9d (s:BA) (w:World) (hs:s.size<4294967281):Calls Tryz.prog 134 #[.string s,.string ⟨#[13,10,0]⟩] w λe w'=>e=.returned (.bool (s.data.toList.any λb=>crlf0.contains b))/\Below w.heap.size w w':=by
 have hc:Calls Tryz.prog 155 #[.string s,.string ⟨#[13,10,0]⟩] w λe w'=>e=.returned (.int .i64 (Lib.indexAny s.data.toList crlf0))/\Below w.heap.size w w':=by
  by_cases h8:s.size<=8
  ·exact qou s w h8
  ·exact qot s ⟨#[13,10,0]⟩ w (by decide) (by omega) hs (by decide) (λj b hb=>by
    have:b∈([13,10,0]:List UInt8):=y10q hb;simp at this;rcases this with rfl|rfl|rfl <;> decide)
 go_enter Tryz.func134,Tryz.ntmps134
 go_wp2_with (go_at_call 155;refine hc.mono ?_;rintro e w' ⟨rfl,hb⟩)
 go_ret
 refine ⟨?_,hb⟩;rw [←q9f s.data.toList];rfl
theorem qa6 (s sub:BA) (m:Int) (w:World) (hs:s.size<4294967281) (hm:w.cell? ⟨0,0,none⟩=some (.int .i64 m)) :
  Calls Tryz.prog 163 #[.string s,.string sub] w λe w'=>e=.returned (.bool (Lib.contains s.data.toList sub.data.toList))/\w'=w:=Any.strings_Contains lays144 s sub m w hs hm
set_option maxHeartbeats 400000 in
set_option maxRecDepth 4000 in
theorem q9u (w:World):Calls Tryz.prog 54 #[.slice none 0 0] w λe w'=>e=.returned (.slice none 0 0)/\w=w':=by
 have hz:∀ w:World,(binOp .eql 26 (.slice none 0 0) (.slice none 0 0)).run Tryz.prog w=.ok (.bool true) w:=λw=>Lib.run_eql_slice_nil w _ _ _ _ _ _ _ Tryz.underlying26
 go_enter Tryz.func54,Tryz.ntmps54
 go_wp2
 go_ret
 exact ⟨rfl,rfl⟩
theorem q9v {f:FuncId} (hnil:∀ w,Calls Tryz.prog f #[.slice none 0 0] w λe w'=>e=.returned (.slice none 0 0)/\w=w') (c2:CallOk Tryz.prog f [.c .ne] (.row 0 0,[.row []])):CallOk Tryz.prog f [.c (.sl [])] (.row 0 0,[.row []]):=by
 refine ⟨c2.1,c2.2.1,λw Z Y cargs hG hZ hY hs hr=>?_⟩;have hs1:cargs.size=1:=hs
 obtain ⟨u,hu⟩:∃ u,cargs[0]?=some u:=⟨cargs[0]'(by omega),y3q _⟩
 have r0:=hr 0 u _ hu rfl;cases r0 with
 |c r0 =>
 have one:∀ y:C,RepC Z u y->∀ (i:Nat) u' x,cargs[i]?=some u'->[V.c y][i]?=some x->Rep Z Y noM u' x:=by
  intro y hy i u' x h1 h2;cases i with
  |zero =>
   rw [hu] at h1;injection h1 with h1;subst h1
   simp at h2;subst h2;exact .c hy
  |succ i=>simp at h2
 cases r0 with
 |sl A n c k b off U es hl hc hm hk hA hz hr' hN =>
  have hl':n=0:=by simpa using hl.symm
  subst hl';cases A with
  |none =>
   have:=hN rfl;subst this;obtain rfl:cargs=#[.slice none 0 0]:=by
    apply Array.ext (by simpa using hs1)
    intro i h1 h2;have:i=0:=by simp at h2;omega
    subst this;rw [y3q h1] at hu;injection hu
   refine (hnil w).mono λe w'=>?_;rintro ⟨rfl,rfl⟩;refine ⟨_,Z,λi=>if i=0 then some (.slice none 0 0) else none,rfl,ZUp.refl,⟨q1je.2 (Bel.refl _),⟨hG,GB.no⟩,hZ,(λ_ _ _ h=>by cases h),?_,?_,?_,?_,?_⟩,.row 0 0 none 0 (by simp) (by simp),?_⟩
   ·intro id cs h
    cases id <;> simp at h
   ·intro id es h
    cases id with
    |zero=>simp at h;subst h;exact .inl ⟨by simp,rfl⟩
    |succ id=>simp at h
   ·intro id es q v h
    cases id <;> simp at h
   ·intro id l h
    cases id <;> simp at h
   ·intro id id' g _ _ h
    unfold blkOf at h;by_cases h0:id=0 <;> simp [h0] at h
   ·intro i h
    by_cases h0:i=0
    ·subst h0;simp
    ·simp [h0] at h
  |some a=>exact c2.2.2 w Z Y cargs hG hZ hY hs (one .ne (.ne a c hm))
theorem mo_ok:Tryz.prog.follows .mixedOrders=true:=by kernel_rfl
theorem q9w {f:FuncId} (hf:clones.contains f=true):CallOk Tryz.prog f [.c (.sl [])] (.row 0 0,[.row []]):=by
 have h:f∈clones:=by simpa using hf
 clear hf;unfold clones at h
 repeat
  rcases h with _|⟨_,h⟩
  ·first
    |fail
    |exact q9v q9u (qh Tryz.prog lv ⟨λ_ _=>none,λ_=>none⟩ mo_ok ⟨λ_ _ _ h=>by (cases h),λ_ _ _ _ _ h=>by (cases h)⟩ (qf (n:=30) (by kernel_rfl)))
 cases h
theorem X0c_ok:∀ f args r,X0c f args=some r->CallOk Tryz.prog f args r:=by
 intro f args r h;unfold X0c at h;cases hf:clones.contains f with
 |true =>
  rw [hf,x22q] at h;split at h
  case h_2=>cases h
  injection h with h;subst h;exact q9w hf
 |false =>
 rw [hf,cond_false] at h;cases h1:f==163 with
 |true =>
  rw [h1,x22q] at h;have hf':f=163:=by simpa using h1
  subst hf';split at h
  case h_2=>cases h
  rename_i s t;cases hp:contP s t with
  |none=>rw [hp] at h;cases h
  |some b =>
  rw [hp] at h;injection h with h
  subst h;unfold contP at hp;split at hp
  case isFalse=>cases hp
  rename_i hsz;injection hp with hp
  subst hp;refine q95 rfl λw Z Y cargs hG hZ hs hr=>?_;obtain ⟨u,v,rfl,r1,r2⟩:=args2 hs hr;rw [q10x r1,q10x r2];obtain ⟨m,hm⟩:=gw_ml hG;exact (qa6 s t m w hsz hm).mono λe w' h=>⟨_,h.1,by rw [h.2];exact Bel.refl _,λ_ _=>.c (.bool _)⟩
 |false =>
 rw [h1,cond_false] at h;cases h2:f==125 with
 |true =>
  rw [h2,x22q] at h;have hf':f=125:=by simpa using h2
  subst hf';split at h
  case h_2=>cases h
  rename_i s t;cases hp:cutP s t with
  |none=>rw [hp] at h;cases h
  |some b =>
  rw [hp] at h;injection h with h
  subst h;unfold cutP at hp;split at hp
  case isFalse=>cases hp
  rename_i hsz;injection hp with hp
  subst hp;refine q95 rfl λw Z Y cargs hG hZ hs hr=>?_;obtain ⟨u,v,rfl,r1,r2⟩:=args2 hs hr;rw [q10x r1,q10x r2];obtain ⟨m,hm⟩:=gw_ml hG;refine (qah s t m w hsz hm).mono λe w' h=>?_;obtain ⟨he,n,rfl⟩:=h;refine ⟨_,he,(Bel.refl w).drewN n,λ_ _=>.tup _ _ rfl ?_⟩;intro i u x hu hx
  match i with
  |0=>simp at hu hx;subst hu;subst hx;exact .c (.str _)
  |1=>simp at hu hx;subst hu;subst hx;exact .c (.str _)
  |2=>simp at hu hx;subst hu;subst hx;exact .c (.bool _)
  |i+3=>simp at hu
 |false =>
 rw [h2,cond_false] at h;cases h3:f==38 with
 |true =>
  rw [h3,x22q] at h;have hf':f=38:=by simpa using h3
  subst hf';split at h
  case h_2=>cases h
  rename_i s c;injection h with h
  subst h;refine q95 rfl λw Z Y cargs hG hZ hs hr=>?_;obtain ⟨u,v,rfl,r1,r2⟩:=args2 hs hr;rw [q10x r1,q10w r2];exact (Any.strings_IndexByte lays137 s c w).mono λe w' h=>⟨_,h.1,by rw [h.2];exact Bel.refl _,λ_ _=>.c (.int _ _)⟩
 |false =>
 rw [h3,cond_false] at h;cases h4:f==134 with
 |true =>
  rw [h4,x22q] at h;have hf':f=134:=by simpa using h4
  subst hf';split at h
  case h_2=>cases h
  rename_i s t;cases hp:canyP s t with
  |none=>rw [hp] at h;cases h
  |some b =>
  rw [hp] at h;injection h with h
  subst h;unfold canyP at hp;split at hp
  case isFalse=>cases hp
  rename_i hsz;injection hp with hp
  subst hp;have ht:t=⟨#[13,10,0]⟩:=by apply ByteArray.ext;exact y34q.1 hsz.2
  subst ht;refine q95 rfl λw Z Y cargs hG hZ hs hr=>?_;obtain ⟨u,v,rfl,r1,r2⟩:=args2 hs hr;rw [q10x r1,q10x r2];exact (q9d s w hsz.1).mono λe w' h=>⟨_,h.1,bel_of h.2,λ_ _=>.c (.bool _)⟩
 |false =>
 rw [h4,cond_false] at h;cases h6:f==135 with
 |true =>
  rw [h6,x22q] at h;have hf':f=135:=by simpa using h6
  subst hf';split at h
  case h_2=>cases h
  rename_i s n;cases hp:numP s n with
  |none=>rw [hp] at h;cases h
  |some b =>
  rw [hp] at h;injection h with h
  subst h;refine q95 rfl λw Z Y cargs hG hZ hs hr=>?_;obtain ⟨u,v,rfl,r1,r2⟩:=args2 hs hr;rw [q10x r1,q10w r2];refine (qvg s n w hG b hp).mono λe w' h=>⟨_,h.1,h.2,λ_ _=>.tup _ _ rfl ?_⟩;intro i u x hu hx
  match i with
  |0=>simp at hu hx;subst hu;subst hx;exact .c (.int _ _)
  |1=>simp at hu hx;subst hu;subst hx;exact .c (.bool _)
  |i+2=>simp at hu
 |false =>
 rw [h6,cond_false] at h;cases h7:f==64 with
 |true =>
  rw [h7,x22q] at h;have hf':f=64:=by simpa using h7
  subst hf';split at h
  case h_2=>cases h
  rename_i s;cases hp:quoP s with
  |none=>rw [hp] at h;cases h
  |some b =>
  rw [hp] at h;injection h with h
  subst h;unfold quoP at hp;split at hp
  case isFalse=>cases hp
  rename_i hsz;injection hp with hp
  subst hp;refine q95 rfl λw Z Y cargs hG hZ hs hr=>?_;obtain ⟨u,rfl,r1⟩:=args1 hs hr;rw [q10x r1];exact (q101 s hsz w).mono λe w' h=>⟨_,h.1,bel_of h.2,λ_ _=>.c (.str _)⟩
 |false =>
 rw [h7,cond_false] at h;cases h8:f==62 with
 |true =>
  rw [h8,x22q] at h;have hf':f=62:=by simpa using h8
  subst hf';split at h
  case h_2=>cases h
  rename_i s n;cases hp:repP s n with
  |none=>rw [hp] at h;cases h
  |some b =>
  rw [hp] at h;injection h with h
  subst h;refine q95 rfl λw Z Y cargs hG hZ hs hr=>?_;obtain ⟨u,v,rfl,r1,r2⟩:=args2 hs hr;rw [q10x r1,q10w r2];exact (q112 s n b hp w).mono λe w' h=>⟨_,h.1,h.2,λ_ _=>.c (.str _)⟩
 |false =>
 rw [h8,cond_false] at h;cases h9:f==50 with
 |true =>
  rw [h9,x22q] at h;have hf':f=50:=by simpa using h9
  subst hf';split at h
  case h_2=>cases h
  rename_i es s;cases hl:strsOf es with
  |none=>rw [hl] at h;cases h
  |some l =>
  rw [hl] at h;simp only [x0q] at h;cases hp:joinP l s with
  |none=>rw [hp] at h;cases h
  |some b =>
  rw [hp] at h;injection h with h
  subst h;refine q95 rfl λw Z Y cargs hG hZ hs hr=>?_;obtain ⟨u,v,rfl,r1,r2⟩:=args2 hs hr;rw [q10x r2];cases r1 with
  |c r1=>exact (qqh es l s b hl hp w Z hZ u r1).mono λe w' h=>⟨_,h.1,h.2,λ_ _=>.c (.str _)⟩
 |false =>
 rw [h9,cond_false] at h;cases hk:f==82 with
 |true =>
  rw [hk,x22q] at h;have hf':f=82:=by simpa using hk
  subst hf';split at h
  case h_2=>cases h
  rename_i es;cases hp:bodP es with
  |none=>rw [hp] at h;cases h
  |some b =>
  rw [hp] at h;injection h with h
  subst h;exact q86 hp
 |false =>
 rw [hk,cond_false] at h;clear hk;cases hk:f==53 with
 |true =>
  rw [hk,x22q] at h;have hf':f=53:=by simpa using hk
  subst hf';split at h
  case h_2=>cases h
  rename_i es;cases hp:catP es with
  |none=>rw [hp] at h;cases h
  |some b =>
  rw [hp] at h;injection h with h
  subst h;exact q9i hp
 |false =>
 rw [hk,cond_false] at h;clear hk;cases h5:f==67 with
 |true =>
  rw [h5,x22q] at h;have hf':f=67:=by simpa using h5
  subst hf';split at h
  case h_2=>cases h
  rename_i n;cases hp:itoaP n with
  |none=>rw [hp] at h;cases h
  |some b =>
  rw [hp] at h;injection h with h
  subst h;unfold itoaP at hp;split at hp
  case isFalse=>cases hp
  rename_i hsz;injection hp with hp
  subst hp;refine q95 rfl λw Z Y cargs hG hZ hs hr=>?_;obtain ⟨u,rfl,r1⟩:=args1 hs hr;rw [q10w r1];exact (qq7 n hsz.1 hsz.2 w (gw_pow hG)).mono λe w' h=>⟨_,h.1,h.2,λ_ _=>.c (.str _)⟩
 |false =>
 rw [h5,cond_false] at h;cases h
theorem argsD {cargs:Array Value} (hs:cargs.size=2):cargs=#[cargs.getD 0 undef,cargs.getD 1 undef]:=by
 apply Array.ext (by simpa using hs)
 intro i h1 h2
 match i,h1 with
 |0,h1=>simp [Array.getD,h1]
 |1,h1=>simp [Array.getD,h1]
 |i+2,h1=>omega
theorem qhn (st:St) (vs:List V) (s1:St) (h:expX.run (List V×St) st some=some (vs,s1)):RuleOk Tryz.prog 92 2 st vs s1:=by
 unfold expX at h;simp only at h;split at h
 case h_2=>cases h
 rename_i id a e0 e1;split at h
 case h_2=>cases h
 rename_i cs hcs;split at h
 case h_2=>cases h
 rename_i j hj;split at h
 case h_2=>cases h
 rename_i l hl;cases hp:expP l a with
 |none=>rw [hp] at h;cases h
 |some r =>
 rw [hp] at h;injection h with h
 injection h with h1 h2;subst h1 h2;intro G w0 w Z Y m cargs R hm hG hs hr;have r0:=hr 0
 have r1:=hr 1;rw [e0] at r0;rw [e1] at r1;rw [argsD hs];rw [q10x r1];generalize cargs.getD 0 undef=u0 at r0;cases r0 with
 |ptr _ _ g hmi =>
 obtain ⟨g',hm',hb⟩:=R.box id cs hcs;rw [hmi] at hm';injection hm' with hm';injection hm' with hm';injection hm' with hm';injection hm' with hm'
 subst hm';obtain ⟨t,ws,hw,hrep⟩:=hb.ex;cases hrep with
 |agg _ _ hlen h1 hcell =>
 have h6:cs[6]?=some (.mp j):=by
  rw [x2q] at hj;cases h6:cs[6]? with
  |none=>rw [h6] at hj;cases hj
  |some v=>rw [h6] at hj;exact congrArg some hj
 obtain ⟨hlt,hel⟩:=y2q.1 h6;have hw6:ws[6]?=some (ws[6]'(by omega)):=y3q (by omega)
 have r6:=hcell 6 _ _ hw6 h6;generalize ws[6]'(by omega)=u6 at hw6 r6
 cases r6 with
 |mp _ b hmj =>
 obtain ⟨b',hm',hat⟩:=R.mp j l hl;rw [hmj] at hm';injection hm' with hm';injection hm' with hm';injection hm' with hm'
 subst hm';have hown:=hat.owns (P:=Tryz.prog) (k:=9) Tryz.underlying9
 have hcl:w.cell? ⟨g,6,none⟩=some (.map (some b)):=by simp only [World.cell?,hw];exact hw6
 obtain ⟨ml,hml⟩:=gw_ml (BelA.gw R.bel R.gw);unfold expP at hp;split at hp
 case isFalse=>cases hp
 rename_i hsz;cases hq:expF l (a.size+1) a.data.toList [] with
 |none=>rw [hq] at hp;cases hp
 |some o =>
 rw [hq] at hp;injection hp with hp
 subst hp;refine (qho g b l.length ml l a w o hsz hml hcl hown hq).mono λe w'=>?_;rintro ⟨rfl,hb⟩;exact ⟨_,Z,m,rfl,ZUp.refl,R.later (bel_of hb),.c (.str _),hG,hm⟩
theorem qmd {w w':World} {g:Nat} (h:w.grownBy w' (some g)) (hg:g<w.heap.size):∃ w1,Wr g w w1/\Bel w1 w'/\w1.heap[g]?=w'.heap[g]?:=by
 have hg':g<w'.heap.size:=Nat.lt_of_lt_of_le hg h.size;refine ⟨{ w' with heap:=w.heap.setIfInBounds g w'.heap[g] },⟨h.os,h.tape,h.output,by simp,λk hk=>?_⟩,⟨rfl,rfl,rfl,by simpa using h.size,λk hk=>?_⟩,?_⟩
 ·show (w.heap.setIfInBounds g w'.heap[g])[k]?=_
  rw [y11q (Ne.symm hk)]
 ·show w'.heap[k]?=(w.heap.setIfInBounds g w'.heap[g])[k]?
  have hk:k<w.heap.size:=by simpa using hk
  by_cases e:k=g
  ·subst e
   rw [y27q hg,y3q hg']
  ·rw [y11q (Ne.symm e)]
   exact h.block k hk (λe2=>e (by injection e2))
 ·show (w.heap.setIfInBounds g w'.heap[g])[g]?=_
  rw [y27q hg,y3q hg']
theorem qb8 (st:St) (vs:List V) (s1:St) (h:(delX 145).run (List V×St) st some=some (vs,s1)):RuleOk Tryz.prog 144 2 st vs s1:=by
 unfold delX at h;simp only at h;split at h
 case h_2=>cases h
 rename_i j f e0 e1;cases hf:f==145 with
 |false=>rw [hf] at h;cases h
 |true =>
 rw [hf,x22q] at h;have hf':f=145:=by simpa using hf
 subst hf';split at h
 case h_2=>cases h
 rename_i l hl;cases hp:delP l with
 |none=>rw [hp] at h;cases h
 |some l' =>
 rw [hp] at h;injection h with h
 injection h with h1 h2;subst h1 h2;unfold delP at hp;split at hp
 case isFalse=>cases hp
 rename_i hall;injection hp with hp
 subst hp;intro G w0 w Z Y m cargs R hm hG hs hr;have r0:=hr 0
 have r1:=hr 1;rw [e0] at r0;rw [e1] at r1;rw [argsD hs];generalize cargs.getD 0 undef=u0 at r0;generalize cargs.getD 1 undef=u1 at r1;cases r0 with
 |mp _ b hmj =>
 have hu1:u1=.func (.func 145) #[] #[]:=by
  cases r1 with
  |fn _ cs _ hlen _ _ =>
   have:cs=#[]:=Array.size_eq_zero_iff.1 (by simpa using hlen)
   rw [this]
 subst hu1;obtain ⟨b',hm',hat⟩:=R.mp j l hl;rw [hmj] at hm';injection hm' with hm';injection hm' with hm';injection hm' with hm'
 subst hm';have hown:=hat.owns (P:=Tryz.prog) (k:=9) Tryz.underlying9
 refine (qb9 b l.length l w hown (λp hp=>of_decide_eq_true (y31q.1 hall p hp))).mono λe w'=>?_;rintro ⟨rfl,ho,hg⟩;obtain ⟨l2,hl2,hat2,_⟩:=MapAt.of_owns (base:=w0.own) hat.base Tryz.underlying9 ho;have:=qao hl2
 subst this;obtain ⟨w1,hw1,hb1,he1⟩:=qmd hg hown.lt;have hat1:MapAt w0.own w1 b (l.filter λp=>!digP p.1):=by obtain ⟨es,clock,q1,q2⟩:=hat2.ex;exact ⟨hat2.base,es,clock,by rw [he1];exact q1,q2⟩
 have R1:=(R.write_map hl hmj hw1 hat1).later hb1;exact ⟨_,Z,m,rfl,ZUp.refl,R1,.tup _ _ rfl (λi u x hu _=>by simp at hu),hG,hm⟩
theorem X0_ok:XOk Tryz.prog X0:=by
 refine ⟨X0c_ok,λf R st vs s1 hf0 h=>?_⟩;have hf:X0h f=some R:=hf0
 clear hf0;unfold X0h at hf;cases h1:f==92 with
 |true =>
  rw [h1,x22q] at hf;injection hf with hR
  have hf':f=92:=by simpa using h1
  subst hR;subst hf';exact qhn st vs s1 h
 |false =>
 rw [h1,cond_false] at hf;clear h1;cases h1:f==144 with
 |true =>
  rw [h1,x22q] at hf;injection hf with hR
  have hf':f=144:=by simpa using h1
  subst hR;subst hf';exact qb8 st vs s1 h
 |false =>
 rw [h1,cond_false] at hf;clear h1;cases hf
end Go.Proofs.YtmlcmoaonaomfaaGreatDoor
namespace Go.Proofs.YtmlcmoaonaomfaaGreatDoor
open Go.ChangeShapes Go.WideShapes Go.ChangeAt Go.ChangeMaps Go.RowKit Go.Deep
theorem moR_ok:Tryz.prog.follows .mixedOrders=true:=by kernel_rfl
theorem qr5 {f:FuncId} {args:List V} {cargs:Array Value} {W:World} (hC:Call Tryz.prog lv X0 f args=some (.c (.bool true),[])) (hG:GW W) (hsz:cargs.size=args.length)
  (hrep:∀ (i:Nat) u x,cargs[i]?=some u->args[i]?=some x->Rep (Zw W) (λ_ _=>none) noM u x):Calls Tryz.prog f cargs W λe W'=>e=.returned (.bool true)/\Bel W W':=by
 have ok:=qh Tryz.prog lv X0 moR_ok X0_ok hC;refine (ok.2.2 W (Zw W) (λ_ _=>none) cargs hG (λ_ _ _ h=>h) (λ_ _ _ h=>by cases h) hsz hrep).mono λe W'=>?_
 rintro ⟨cv,Z',m',rfl,_,R,r,_⟩;cases r with
 |c r =>
 cases r;exact ⟨rfl,q1je.1 R.bel⟩
def RepA (W:World):List Value->List V->Prop
 |[],[]=>True
 |u::us,x::xs=>Rep (Zw W) (λ_ _=>none) noM u x/\RepA W us xs
 |_,_=>False
theorem RepA.get {W:World}:∀ {us:List Value} {xs:List V},RepA W us xs->us.length=xs.length/\∀ (i:Nat) u x,us[i]?=some u->xs[i]?=some x->Rep (Zw W) (λ_ _=>none) noM u x
 |[],[],_=>⟨rfl,λi u x h _=>by simp at h⟩
 |u::us,x::xs,h=>by
  obtain ⟨h1,h2⟩:=RepA.get h.2;refine ⟨by simp [h1],λi u' x' hu hx=>?_⟩
  cases i with
  |zero=>simp at hu hx;subst hu hx;exact h.1
  |succ i=>simp at hu hx;exact h2 i u' x' hu hx
 |[],_::_,h=>h.elim
 |_::_,[],h=>h.elim
def laidL : List (String × DataW Unit) := [("math/bits.deBruijn32tab", Rows.laid_math_bits_deBruijn32tab), ("math/bits.deBruijn64tab", Rows.laid_math_bits_deBruijn64tab), ("internal/strconv.uint64pow10", Rows.laid_internal_strconv_uint64pow10), ("unicode/utf8.acceptRanges", Rows.laid_unicode_utf8_acceptRanges), ("strconv.ErrRange", Rows.laid_strconv_ErrRange), ("strconv.ErrSyntax", Rows.laid_strconv_ErrSyntax), ("unicode/utf8.first", Rows.laid_unicode_utf8_first)]
theorem q1ik {H:Type} {enc:TypeId×Value->H} {P:Program} {w:World} {base:Nat} {spare:Nat->Bool} {held:Bool} {fuel:Nat} {t:TypeId} {ms:Array (String×TypeId)} {cs:List Value} {x:DataW H×List MemPlace}
  (ht:P.underlying t=some (.interface ms)) (h:DataW.trod enc P w base spare held fuel t cs=some x):cs=[.nilIface]∨∃ te pe,cs=[.iface te pe]:=by
 cases fuel with
 |zero=>simp [DataW.trod] at h
 |succ fuel =>simp only [DataW.trod,ht] at h;split at h <;> first|(exact .inl rfl)|(exact .inr ⟨_,_,rfl⟩)|simp_all
theorem q9r {P:Program} {w:World} {name:String} {g:Nat} {t:TypeId} {ms:Array (String×TypeId)} {D:DataW Unit} (hr:Lib.VarReads P w name D) (hg:P.globalNamed name=some g) (ht:(P.globals[g]?).map (·.type)=some t) (hu:P.underlying t=some (.interface ms)) :
  ∃ ev,w.cell? ⟨g,0,none⟩=some ev/\(ev=.nilIface∨∃ te pe,ev=.iface te pe):=by
 obtain ⟨g',t',cs,fuel,p,h1,h2,h3,h4⟩:=hr;obtain rfl:=Option.some.inj (hg.symm.trans h1);obtain rfl:=Option.some.inj (ht.symm.trans h2);have hc:=World.var?_cell h1 h3 0
 rcases q1ik hu h4 with e|⟨te,pe,e⟩
 ·exact ⟨.nilIface,by rw [hc,←y38q,e];rfl,.inl rfl⟩
 ·exact ⟨.iface te pe,by rw [hc,←y38q,e];rfl,.inr ⟨_,_,rfl⟩⟩
theorem gw_row {W:World} (hs:W.ShapedOpen Tryz.prog) (hl:laidMetH Tryz.prog laidL W):GW W:=by
 have hl':laidMet Tryz.prog laidL W:=hl;obtain ⟨g,t,cs,fuel,p,h1,h2,h3,h4⟩:=Lib.laidMet.reads hl' (.tail _ (.tail _ (.head _)))
 have hg : Tryz.prog.globalNamed "internal/strconv.uint64pow10" = some 1 := by kernel_rfl
 have ht:(Tryz.prog.globals[1]?).map (·.type)=some 244:=by kernel_rfl
 obtain rfl:=Option.some.inj (hg.symm.trans h1);obtain rfl:=Option.some.inj (ht.symm.trans h2);have hd:(Rows.laid_internal_strconv_uint64pow10:DataW Unit)=Lib.tabData .u64 Lib.pow10Tab:=by rfl
 rw [hd] at h4;have hc:=Lib.cells_of_tab (n:=20) Tryz.underlying244 Tryz.underlying31 (by kernel_rfl) (by kernel_rfl) h4
 refine ⟨Go.Proofs.cell_of_shapedOpen_int (zero:=#[.int .i64 0]) (t:=3) hs (of_decide_eq_true (by kernel_rfl)) (by kernel_rfl) rfl (by kernel_rfl) (by kernel_rfl) Tryz.underlying3,?_,
  q9r (Lib.laidMet.reads hl' (.tail _ (.tail _ (.tail _ (.tail _ (.tail _ (.head _))))))) (by kernel_rfl) (by kernel_rfl) Tryz.underlying141,
  q9r (Lib.laidMet.reads hl' (.tail _ (.tail _ (.tail _ (.tail _ (.head _)))))) (by kernel_rfl) (by kernel_rfl) Tryz.underlying141,trivial⟩
 simp only [World.var?,hg,x0q] at h3;split at h3
 ·rename_i cs' t' fz hh
  injection h3 with h3;subst h3;refine ⟨t',fz,?_⟩;rw [hh];congr 2;apply Array.ext';rw [hc]
 ·cases h3
abbrev synS:BA:=⟨#[105,110,118,97,108,105,100,32,115,121,110,116,97,120]⟩
abbrev ranS:BA:=⟨#[118,97,108,117,101,32,111,117,116,32,111,102,32,114,97,110,103,101]⟩
noncomputable def lowBlk:Nat:=(World.holding Tryz.prog default ⟨#[],#[],[]⟩).heap.size
noncomputable def laidWorld (os:Os) (args:Array Value):World :=
 let w0:=World.holding Tryz.prog os ⟨#[.cells #[.string ranS] 308,.cells #[.string synS] 308],args,[]⟩
 let put (h:Array Obj) (g:Nat) (cs:Array Value):Array Obj:=h.modify g fun
  |.cells _ t frozen=>.cells cs t frozen
  |o=>o
 let ints (d:DataW Unit):Array Value:=match d with
  |.agg ds=>(ds.map λx=>match x with|.lit (.int k z)=>Value.int k z|_=>.nilFunc).toArray
  |_=>#[]
 let pairs (d:DataW Unit):Array Value:=match d with
  |.agg ds=>(ds.map λx=>ints x).foldl (λa b=>a++b) #[]
  |_=>#[]
 let h1:=put w0.heap 4 (ints Rows.laid_math_bits_deBruijn32tab)
 let h2:=put h1 5 (ints Rows.laid_math_bits_deBruijn64tab)
 let h3:=put h2 1 (ints Rows.laid_internal_strconv_uint64pow10)
 let h4:=put h3 7 #[.iface 306 (.pointer (some ⟨lowBlk,0,none⟩))]
 let h5:=put h4 6 #[.iface 306 (.pointer (some ⟨lowBlk+1,0,none⟩))]
 let h6:=put h5 3 (pairs Rows.laid_unicode_utf8_acceptRanges)
 let h7:=put h6 2 (ints Rows.laid_unicode_utf8_first)
 { w0 with heap:=h7 }
theorem qqx (os:Os) (args:Array Value):laidMetH Tryz.prog laidL ((laidWorld os args).forCall (λ_ _=>0) ⟨#[],args,[]⟩).memory:=by
 have h:LaidIn Tryz.prog ((laidWorld os args).forCall (λ_ _=>0) ⟨#[],args,[]⟩).memory laidL [4,5,1,3,7,lowBlk,6,lowBlk+1,2] :=
  LaidIn.of_run [4,5,1,3,7,lowBlk,6,lowBlk+1,2] 8 (by kernel_rfl) (by kernel_rfl) (by kernel_rfl) (by kernel_rfl)
 exact h.met
end Go.Proofs.YtmlcmoaonaomfaaGreatDoor
