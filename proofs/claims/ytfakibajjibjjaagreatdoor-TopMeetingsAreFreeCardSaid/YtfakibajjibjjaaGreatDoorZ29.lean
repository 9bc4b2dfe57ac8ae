/- freebusy.Union: the rule is sound. -/
import Derived.Test.YtfakibajjibjjaaGreatDoorZ28
import Derived.Shelf.Spec.SlicesGrow
import Derived.Test.YtfakibajjibjjaaGreatDoorChecked
import Derived.Test.YtfakibajjibjjaaGreatDoorZ26
import Derived.Test.YtfakibajjibjjaaGreatDoorGB
import Derived.Test.YtfakibajjibjjaaGreatDoorZ27
namespace Go.Proofs.YtfakibajjibjjaaGreatDoor
open Go.RowKit
def Z1 (W w:World) (Z:ZMap):ZMap:=fun b o=>if (Z b o).isSome then Z b o else if W.heap.size≤b then w.cell? ⟨b,o,none⟩ else none
theorem Z1_up (W w:World) (Z:ZMap):ZUp (wb W) Z (Z1 W w Z):=by
 refine ⟨fun b o u h=>by simp [Z1,h],fun b o u h=>?_⟩
 unfold Z1 at h
 split at h
 ·exact .inl h
 ·split at h
  ·rename_i h1;exact .inr (q154.2 h1)
  ·cases h
theorem Z1_ok {W w:World} {Z:ZMap} (hb:Bel W w) (hZ:∀ b o u,Z b o=some u→W.cell? ⟨b,o,none⟩=some u):∀ b o u,Z1 W w Z b o=some u→w.cell? ⟨b,o,none⟩=some u:=by
 intro b o u h
 unfold Z1 at h
 split at h
 ·have:=hZ b o u h
  rw [hb.cell _ (q8u this)];exact this
 ·split at h
  ·exact h
  ·cases h
theorem Hold.repc {W w:World} {Z:ZMap} {v:Value} {l:List Pd} (h:Hold W w v l) (hb:Bel W w) (hZ:∀ b o u,Z b o=some u→W.cell? ⟨b,o,none⟩=some u):RepC (Z1 W w Z) v (.sl (qde.encL l)):=by
 rcases h with ⟨rfl,A,c,rfl,hc,hA⟩|⟨g,n,c,rfl,hg,h⟩
 ·exact .sl A 0 c 2 0 0 (fun _=>.nilFunc) [] rfl (by simp) hc (by simp) (by simp) (by simp) (by simp) hA
 ·have hl:=h.2.1
  refine .sl _ n c 2 g 0 (fun j=>(w.cell? ⟨g,j,none⟩).getD undef) _ (by simp [hl]) h.2.2.1 h.2.2.2.1 RowP.each (fun _=>rfl) ?_ ?_ (by simp)
  ·intro i e j x h1 h2
   obtain ⟨u,hu,_⟩:=h.cell h1 h2
   have hk:=Z1_ok (Z:=Z) hb hZ g (i*2+j)
   simp only [Nat.zero_add,hu,Option.getD_some]
   unfold Z1 at hk ⊢
   split
   ·rename_i hs
    obtain ⟨u',hu'⟩:=Option.isSome_iff_exists.1 hs
    rw [hu']
    rw [hs,if_pos rfl] at hk
    have:=hk u' hu'
    rw [hu] at this
    exact this.symm
   ·first|(rw [if_pos hg,hu];done)|exact hu|simpa [hg] using hu
  ·intro i e j x h1 h2
   obtain ⟨u,hu,hr⟩:=h.cell h1 h2
   simp only [hu,Option.getD_some]
   exact hr _
theorem Hold.slice {W w:World} {v:Value} {l:List Pd} (h:Hold W w v l):∃ A c,v=.slice A l.length c:=by
 rcases h with ⟨rfl,A,c,rfl,hc,hA⟩|⟨g,n,c,rfl,hg,h⟩
 ·exact ⟨A,c,rfl⟩
 ·exact ⟨_,c,by rw [h.2.1]⟩
set_option maxHeartbeats 4000000 in
set_option maxRecDepth 1000000 in
theorem q14j (l:List Pd) (hl:l.length≤1000000):CallOk Tryz.prog 18 [.c (.sl (qde.encL l))] (.row 0 (unionU l).length,[.row (qde.encL (unionU l))]):=by
 refine ⟨rfl,(fun b hb=>⟨_,by simpa using hb⟩),fun W Z Y cargs hG hZ hY hs hr=>?_⟩
 have hs1:cargs.size=1:=hs
 obtain ⟨u,hu⟩:∃ u,cargs[0]?=some u:=⟨cargs[0]'(by omega),Array.getElem?_eq_getElem _⟩
 have r0:=hr 0 u _ hu rfl
 cases r0 with
 |c r0 =>
 obtain rfl:cargs=#[u]:=by
  apply Array.ext (by simpa using hs1)
  intro i h1 h2
  have:i=0:=by simp at h2;omega
  subst this
  rw [Array.getElem?_eq_getElem h1] at hu
  injection hu
 have hcl:=q9z hG hZ hY hl r0
 have hdel:=fun (w:World) (v:Value) (hb:Bel W w) (h:Hold W w v l)=>qca hG hb h
 have hlF:(l.filter fun p=>!badP p).length≤l.length:=List.length_filter_le _ _
 unfold unionU
 generalize l.filter (fun p=>!badP p)=F at *
 have hsort:=fun (w:World) (v:Value) (hb:Bel W w) (h:Hold W w v F)=>qzz hb h (by omega)
 have hlS:(sortU F).length=F.length:=(qzx F).2.1
 generalize sortU F=G at *
 have hun:=q14i G (by omega) G.length 0 [] (by omega) (by simp)
 rw [List.drop_zero] at hun
 clear hlS
 generalize mergeU [] G=M at *
 go_enter Tryz.func18,Tryz.ntmps18
 go_wp2_with (first|(go_at_call 51;refine hcl.mono ?_;rintro e w1 ⟨v1,rfl,hb1,hh1⟩)|(go_at_call 50;refine (hdel _ _ hb1 hh1).mono ?_;rintro e w2 ⟨v2,rfl,hb2,hh2⟩)|(go_at_call 53;refine (hsort _ _ hb2 hh2).mono ?_;rintro e w3 ⟨rfl,hb3,hh3⟩;obtain ⟨A,c,rfl⟩:=hh3.slice))
 rename_i K hK
 have hrc:=hh3.repc hb3 hZ
 have hR:Rel (wb W) (Z1 W w3 Z) Z0 (fun i=>if i=0 then some (.slice none 0 0) else none) (fun j=>([some (B.row (qde.encL []))][j]?).getD none) (fun j=>([false][j]?).getD false) w3:=by
  refine ⟨q153.2 hb3,⟨hG,GB.no⟩,Z1_ok hb3 hZ,(fun _ _ _ h=>by cases h),?_,?_,?_,?_,?_⟩
  ·intro id cs h
   cases id <;> simp at h
  ·intro id es h
   cases id with
   |succ id=>simp at h
   |zero=>simp [EC.encL] at h;subst h;exact .inl ⟨by simp,rfl⟩
  ·intro id es i v h
   cases id <;> simp at h
  ·intro id l h
   cases id <;> simp at h
  ·intro id id' g' h1 h2 _ _
   cases id with
   |succ id=>simp at h1
   |zero=>cases id' with
    |succ id'=>simp at h2
    |zero=>rfl
 have ok:=lS_ok qsi X0_ok hun (q149 _ _ _ _ _) Z0 (wb W)
 refine ok [] (fun _=>none) (Z1 W w3 Z) _ _ _ ⟨⟨rfl,fun q=>?_⟩,hR,(fun _ _ _ _ h=>by cases h),rfl⟩ ?_ _ ?_
 ·show Rep _ _ _ _ (tb [(3,V.row 0 0),(12,V.c (.sl (qde.encL G))),(13,V.c (.int .i64 (G.length:Int))),(14,V.c (.int .i64 0))] q)
  match q with
  |3=>exact .row 0 0 none 0 (by simp) (by simp)
  |12=>exact .c hrc
  |13=>exact .c (.int _ _)
  |14=>exact .c (.int _ _)
  |0=>exact .any _
  |1=>exact .any _
  |2=>exact .any _
  |4=>exact .any _
  |5=>exact .any _
  |6=>exact .any _
  |7=>exact .any _
  |8=>exact .any _
  |9=>exact .any _
  |10=>exact .any _
  |11=>exact .any _
  |q+15=>exact .any _
 ·intro q hq
  show q<1
  cases q with
  |zero=>decide
  |succ q=>simp at hq
 ·intro a' w4 Z' m' hz' hm' F'
  have hsz:a'.tmps.size=51:=F'.fr.size
  have hdf:a'.defers=[]:=F'.df
  have r3:Rep Z' Z0 m' (a'.tmps.getD 3 undef) (.row 0 M.length):=F'.fr.rep 3
  have hRel:Rel (wb W) Z' Z0 m' (fun j=>([some (B.row (qde.encL M))][j]?).getD none) (fun j=>([false][j]?).getD false) w4:=F'.rel
  have hm1:∀ i,m' i≠none→i<1:=hm'
  have hlit:=q15 hsz
  obtain ⟨tm,df⟩:=a'
  simp only at hsz hdf r3 hlit
  subst hdf
  generalize hT:(fun i=>tm.getD i undef)=T at *
  have hT3:tm.getD 3 undef=T 3:=by rw [←hT]
  rw [hT3] at r3
  rw [show List.range 51=[0,1,2,3,4,5,6,7,8,9,10,11,12,13,14,15,16,17,18,19,20,21,22,23,24,25,26,27,28,29,30,31,32,33,34,35,36,37,38,39,40,41,42,43,44,45,46,47,48,49,50] from rfl] at hlit
  simp only [List.map_cons,List.map_nil] at hlit
  clear hT hT3 hsz
  subst hlit
  refine hK _ _ ?_
  clear F' ok hR hm' hun
  go_wp2
  go_ret
  have e1:(fun j:Nat=>([some (B.row (qde.encL M))][j]?).getD none)=fun i:Nat=>[B.row (qde.encL M)][i]?:=by
   funext j;cases j <;> rfl
  have e2:(fun j:Nat=>([false][j]?).getD false)=fun _=>false:=by
   funext j;cases j <;> rfl
  rw [e1,e2] at hRel
  exact ⟨T 3,Z',m',rfl,(Z1_up W w3 Z).trans hz',hRel,r3,hm1⟩
end Go.Proofs.YtfakibajjibjjaaGreatDoor
namespace Go.Proofs.YtfakibajjibjjaaGreatDoor
open Go.Shelf
def qj8:Go.Shelf.Ren:=⟨fun|4=>56|n=>n,fun|22=>31|25=>24|3=>3|4=>4|9=>9|20=>20|0=>0|2=>3|n=>n,fun|n=>n⟩
theorem growQ:Lays8.n4 Tryz.prog qj8:={
 mixed:=by kernel_rfl
 f4:=⟨Tryz.f56.name,by decide,Tryz.func56.trans (congrArg some (by kernel_rfl))⟩
 t0:=Tryz.underlying0
 a0:=Tryz.isAgg0
 z0:=Tryz.sizeOf0
 v0:=Tryz.zeroValue0
 t3:=Tryz.underlying3
 a3:=Tryz.isAgg3
 z3:=Tryz.sizeOf3
 v3:=Tryz.zeroValue3
 t4:=Tryz.underlying4
 a4:=Tryz.isAgg4
 z4:=Tryz.sizeOf4
 v4:=Tryz.zeroValue4
 t9:=Tryz.underlying9
 a9:=Tryz.isAgg9
 z9:=Tryz.sizeOf9
 v9:=Tryz.zeroValue9
 t20:=Tryz.underlying20
 a20:=Tryz.isAgg20
 z20:=Tryz.sizeOf20
 v20:=Tryz.zeroValue20
 t22:=Tryz.underlying31
 a22:=Tryz.isAgg31
 z22:=Tryz.sizeOf31
 v22:=Tryz.zeroValue31 }
end Go.Proofs.YtfakibajjibjjaaGreatDoor
namespace Go.Proofs.YtfakibajjibjjaaGreatDoor
open Go.RowKit
def upToP (ls:List (List Pd)) (i:Nat):Nat:=(ls.take i).flatten.length
theorem q14l (ls:List (List Pd)) {i:Nat} (h:i<ls.length):upToP ls (i+1)=upToP ls i+ls[i].length:=by
 unfold upToP;rw [q12x h,List.flatten_append,List.length_append];simp only [List.flatten_cons,List.flatten_nil,List.append_nil]
theorem q14k (ls:List (List Pd)) {i:Nat} (h:i≤ls.length):upToP ls i≤ls.flatten.length:=by
 unfold upToP
 conv=>rhs;rw [←List.take_append_drop i ls,List.flatten_append,List.length_append]
 omega
structure ListsP (W:World) (A:Option Addr) (n:Nat) (ls:List (List Pd)) (V:Nat→Value):Prop where
 len:ls.length=n
 at_:∀ i (h:i<ls.length),∃ b off Ai ci,A=some ⟨b,off,none⟩∧W.cell? ⟨b,off+i,none⟩=some (V i)∧V i=.slice Ai ls[i].length ci ∧
  ((ls[i]=[] )∨∃ bi oi,Ai=some ⟨bi,oi,none⟩∧∀ (j:Nat) (x:Pd),ls[i][j]?=some x→W.cell? ⟨bi,oi+j*2,none⟩=some (.int .i64 x.From)∧W.cell? ⟨bi,oi+(j*2+1),none⟩=some (.int .i64 x.To))
theorem qpc {W:World} {Z:ZMap} (hZ:∀ b o u,Z b o=some u→W.cell? ⟨b,o,none⟩=some u) {u:Value} {ls:List (List Pd)} (h:RepC Z u (.sl (qdg.encL ls))):∃ A c V,u=.slice A ls.length c∧ls.length≤c∧c≤maxLen∧(A=none→c=0)∧ListsP W A ls.length ls V:=by
 cases h with
 |sl A n c k b off U es hl hc hm hk hA hz hr hN =>
  rw [EC.encL_length] at hl
  subst hl
  refine ⟨A,c,fun i=>U (i*k+0),rfl,hc,hm,hN,rfl,fun i hi=>?_⟩
  have he:(qdg.encL ls)[i]?=some [.sl (qde.encL ls[i])]:=by rw [EC.encL,List.getElem?_map,List.getElem?_eq_getElem hi];rfl
  have hne:qdg.encL ls≠[]:=by intro e;rw [e] at he;simp at he
  have hk1:k=1:=(hk _ (List.mem_of_getElem? he)).symm
  subst hk1
  have hcell:=hZ _ _ _ (hz i _ 0 _ he rfl)
  have hrep:=hr i _ 0 _ he rfl
  have ha:=hA hne
  rw [show i*1+0=i by omega] at hcell hrep ⊢
  generalize U i=v at hcell hrep
  cases hrep with
  |sl Ai ni ci ki bi oi Ui esi hli hci hmi hki hAi hzi hri hNi =>
   rw [EC.encL_length] at hli
   subst hli
   refine ⟨b,off,Ai,ci,ha,hcell,rfl,?_⟩
   by_cases h0:ls[i]=[]
   ·exact .inl h0
   ·right
    have hne:qde.encL ls[i]≠[]:=by intro e;exact h0 (qde.encL_inj (by rw [e];rfl))
    obtain ⟨e0,es0,hes⟩:=List.exists_cons_of_ne_nil hne
    have hk2:ki=2:=by
     rw [←hki e0 (by rw [hes];simp)]
     exact RowP.each e0 (by rw [hes];simp)
    subst hk2
    refine ⟨bi,oi,hAi hne,fun j x hx=>?_⟩
    have hej:(qde.encL ls[i])[j]?=some [.int .i64 x.From,.int .i64 x.To]:=by rw [EC.encL,List.getElem?_map,hx];rfl
    have z0:=hZ _ _ _ (hzi j _ 0 _ hej rfl)
    have z1:=hZ _ _ _ (hzi j _ 1 _ hej rfl)
    have r0:=hri j _ 0 _ hej rfl
    have r1:=hri j _ 1 _ hej rfl
    generalize Ui (j*2+0)=v0 at z0 r0
    generalize Ui (j*2+1)=v1 at z1 r1
    cases r0;cases r1
    exact ⟨z0,z1⟩
def GrowsP (W w:World) (v:Value) (tot:Nat) (l:List Pd):Prop :=
 (tot=0∧v=.slice none 0 0∧l=[])∨∃ g c t cur,v=.slice (some ⟨g,0,none⟩) l.length c∧W.heap.size≤g∧tot≤c∧c≤maxLen∧l.length≤tot∧0<tot∧w.heap[g]?=some (.cells cur t (0,0))∧cur.size=c*2 ∧
  ∀ (i:Nat) (x:Pd),l[i]?=some x→cur[i*2]?=some (.int .i64 x.From)∧cur[i*2+1]?=some (.int .i64 x.To)
def flatP (l:List Pd):List Value:=l.flatMap encP
theorem qgk (l:List Pd):(flatP l).length=l.length*2:=by
 induction l with
 |nil=>rfl
 |cons x l ih =>
  have:flatP (x::l)=encP x++flatP l:=rfl
  rw [this,List.length_append,ih];simp [encP];omega
theorem qgj:∀ (l:List Pd) (j:Nat) (x:Pd),l[j]?=some x→(flatP l)[j*2]?=some (.int .i64 x.From)∧(flatP l)[j*2+1]?=some (.int .i64 x.To)
 |[],j,x,h=>by simp at h
 |y::l,0,x,h=>by simp at h;subst h;exact ⟨rfl,rfl⟩
 |y::l,j+1,x,h=>by
  simp at h
  have ih:=qgj l j x h
  have e:flatP (y::l)=encP y++flatP l:=rfl
  rw [e]
  rw [show (j+1)*2=(encP y).length+j*2 by simp [encP];omega,show (encP y).length+j*2+1=(encP y).length+(j*2+1) by omega]
  rw [List.getElem?_append_right (by omega),List.getElem?_append_right (by omega)]
  simp only [Nat.add_sub_cancel_left]
  exact ih
theorem qgi {W:World} {l:List Pd} {bi oi:Nat} (h:∀ (j:Nat) (x:Pd),l[j]?=some x→W.cell? ⟨bi,oi+j*2,none⟩=some (.int .i64 x.From)∧W.cell? ⟨bi,oi+(j*2+1),none⟩=some (.int .i64 x.To)):∀ (j:Nat) u,(flatP l)[j]?=some u→W.cell? ⟨bi,oi+j,none⟩=some u:=by
 intro j u hu
 have hj:j<l.length*2:=by rw [←qgk];exact (List.getElem?_eq_some_iff.1 hu).1
 have hj2:j / 2<l.length:=by omega
 obtain ⟨c1,c2⟩:=h (j / 2) l[j / 2] (List.getElem?_eq_getElem hj2)
 obtain ⟨f1,f2⟩:=qgj l (j / 2) l[j / 2] (List.getElem?_eq_getElem hj2)
 rcases (show j=j / 2*2∨j=j / 2*2+1 by omega) with e|e
 ·rw [←e] at c1 f1;rw [f1] at hu;injection hu with hu;rw [c1,hu]
 ·rw [←e] at c2 f2;rw [f2] at hu;injection hu with hu;rw [c2,hu]
theorem qjc {W w:World} {v:Value} {tot:Nat} {l xs:List Pd} (h:GrowsP W w v tot l) (hb:Bel W w) (hroom:l.length+xs.length≤tot) {Ai:Option Addr} {ci:Nat}
  (hx:xs=[]∨∃ bi oi,Ai=some ⟨bi,oi,none⟩∧∀ (j:Nat) (x:Pd),xs[j]?=some x→W.cell? ⟨bi,oi+j*2,none⟩=some (.int .i64 x.From)∧W.cell? ⟨bi,oi+(j*2+1),none⟩=some (.int .i64 x.To)) :
  ∃ v' w',(∀ ty,(Builtin.append_ #[31,31] ty #[v,.slice Ai xs.length ci]).run Tryz.prog w=.ok v' w')∧Bel W w'∧GrowsP W w' v' tot (l++xs):=by
 obtain ⟨i0,hi,hi2⟩:∃ i0,Tryz.prog.info? 24=some i0∧i0.size=2:=by
  have h:=Tryz.sizeOf24 w
  unfold Go.sizeOf at h
  cases hi:Tryz.prog.info? 24 with
  |none=>simp [typeInfo,hi] at h
  |some i0 =>
   simp [typeInfo,hi] at h
   exact ⟨i0,rfl,h⟩
 have hfirst:(Builtin.firstCells 2 xs.length (.slice Ai xs.length ci)).run Tryz.prog w=.ok (flatP xs).toArray w:=by
  refine qw6 (flatP xs) (qgk xs) ?_
  rcases hx with rfl|⟨bi,oi,hA,hc⟩
  ·exact .inl ⟨rfl,.inr (by simp)⟩
  ·by_cases h0:xs=[]
   ·subst h0;exact .inl ⟨rfl,.inr (by simp)⟩
   ·right
    refine ⟨bi,oi,hA,fun j u hu=>?_⟩
    have:=qgi hc j u hu
    rw [hb.cell _ (q8u this)];exact this
 rw [←hi2] at hfirst
 rcases h with ⟨rfl,rfl,rfl⟩|⟨g,c,t,cur,rfl,hg,hc,hm,hle,hp,hv,hs,hcur⟩
 ·have:xs=[]:=List.eq_nil_of_length_eq_zero (by omega)
  subst this
  exact ⟨.slice none 0 0,w,fun ty=>qw5 Tryz.underlying31 (.inl ⟨_,_,_,Tryz.underlying31,rfl⟩) hi (by simp) hfirst rfl,hb,.inl ⟨rfl,rfl,rfl⟩⟩
 ·obtain ⟨w',r1,r2,r3⟩:=qwi (P:=Tryz.prog) (g:=g) (o:=l.length*2) (flatP xs) 0 w cur hv (fun u hu=>by
   unfold flatP at hu
   obtain ⟨x,_,hu⟩:=List.mem_flatMap.1 hu
   simp [encP] at hu
   rcases hu with rfl|rfl <;> rfl) (by rw [qgk,hs];omega) (by simp)
  refine ⟨.slice (some ⟨g,0,none⟩) (l.length+xs.length) c,w',fun ty=>?_,belF hb hg r2,.inr ⟨g,c,t,_,by rw [List.length_append],hg,hc,hm,by rw [List.length_append];exact hroom,hp,r3,by rw [qgz,hs],fun i x hx'=>?_⟩⟩
  ·refine qw5 Tryz.underlying31 (.inl ⟨_,_,_,Tryz.underlying31,rfl⟩) hi (by omega) hfirst ?_
   rw [hi2]
   have e:(Addr.add ⟨g,0,none⟩ (l.length*2))=⟨g,l.length*2,none⟩:=by unfold Addr.add;split <;> simp_all
   simp only [e]
   exact r1
  ·rcases Nat.lt_or_ge i l.length with h1|h1
   ·rw [List.getElem?_append_left h1] at hx'
    rw [qgw _ _ _ _ _ (by omega),qgw _ _ _ _ _ (by omega)]
    exact hcur i x hx'
   ·rw [List.getElem?_append_right h1] at hx'
    have hi':i - l.length<xs.length:=(List.getElem?_eq_some_iff.1 hx').1
    obtain ⟨f1,f2⟩:=qgj xs _ x hx'
    have e1:i*2=l.length*2+(i - l.length)*2:=by omega
    have e2:i*2+1=l.length*2+((i - l.length)*2+1):=by omega
    rw [e1,show l.length*2+(i - l.length)*2+1=l.length*2+((i - l.length)*2+1) by omega]
    rw [qgy _ _ 0 _ _ (by omega) (by rw [qgk];omega) (by rw [hs];omega),qgy _ _ 0 _ _ (by omega) (by rw [qgk];omega) (by rw [hs];omega)]
    exact ⟨f1,f2⟩
theorem perInfo:∃ i0 z,Tryz.prog.info? 24=some i0∧i0.size=2∧i0.zero=some z∧z.cells.size=2∧i0.bytes=16:=by
 have h1:=sz24
 have h2:=by24
 have h3:=zo24
 unfold szO at h1
 unfold byO at h2
 unfold zOk at h3
 cases hi:Tryz.prog.info? 24 with
 |none=>rw [hi] at h1;cases h1
 |some i0 =>
  rw [hi] at h1 h2 h3
  simp only [Option.map_some,Option.some.injEq,decide_eq_true_eq] at h1 h2 h3
  cases hz:i0.zero with
  |none=>rw [hz] at h3;cases h3
  |some z =>
   rw [hz] at h3
   simp only [Option.map_some,Option.some.injEq] at h3
   exact ⟨i0,z,rfl,h1,hz,by rw [h3,h1],h2⟩
theorem qj6 {W w:World} (hb:Bel W w) (tot:Nat) (ht:tot≤1000000):Calls Tryz.prog 56 #[.slice none 0 0,.int .i64 tot] w fun e w'=>∃ v,e=.returned v∧Bel W w'∧GrowsP W w' v tot []:=by
 by_cases h0:tot=0
 ·subst h0
  refine (Any8.slices_Grow_room growQ none 0 0 0 w (by omega) (by omega) (by omega) (by omega)).mono ?_
  rintro e w' ⟨rfl,rfl⟩
  exact ⟨_,rfl,hb,.inl ⟨rfl,rfl,rfl⟩⟩
 ·obtain ⟨i0,z,hi,hs,hz,hzs,hby⟩:=perInfo
  refine (Any8.slices_Grow_grow growQ i0 z hi hz (by omega) none 0 0 tot [] w (by omega) (by omega) (by rw [hby];omega) (by omega) (by simp) (fun _=>rfl) (by simp)).mono ?_
  have hge:0+tot≤grownCap w (0+tot) 0 24:=grownCap_ge w _ _ _
  have hle:=grownCap_le_maxLen w (0+tot) 0 24 (by unfold maxLen;omega)
  rintro e w' ⟨rfl,rfl⟩
  refine ⟨_,rfl,?_,.inr ⟨w.heap.size,grownCap w (0+tot) 0 24,24,_,rfl,hb.size,by omega,hle,Nat.zero_le _,by omega,heap_alloc_new w.drew _,?_,by simp⟩⟩
  ·exact (Bel.refl w |> hb.trans).drew.alloc _
  ·show ((([]:List Value).toArray++Builtin.zeroCells z.cells (0+tot - 0))++Builtin.zeroCells z.cells (grownCap w (0+tot) 0 24 - (0+tot))).size=_
   simp only [Array.size_append,q169,hzs]
   generalize grownCap w (0+tot) 0 24=G at *
   simp
   omega
set_option maxHeartbeats 4000000 in
set_option maxRecDepth 1000000 in
theorem q8j {W:World} {A:Option Addr} {c:Nat} {ls:List (List Pd)} {V:Nat→Value} (hL:ListsP W A ls.length ls V) (hc:ls.length≤c) (hm:c≤maxLen) (ht:ls.flatten.length≤1000000) :
  Calls Tryz.prog 22 #[.slice A ls.length c] W fun e w'=>∃ v,e=.returned v∧Bel W w'∧GrowsP W w' v ls.flatten.length ls.flatten:=by
 have hn:ls.length≤9223372036854775807:=by unfold maxLen at hm;omega
 generalize hN:ls.length=n at *
 have HL:Aside (ListsP W A n ls V):=hL
 have HT:Aside (ls.flatten.length≤1000000):=ht
 have HN:Aside (ls.length=n):=hN
 have hup:∀ i,i≤n→upToP ls i≤ls.flatten.length:=fun i hi=>q14k ls (by omega)
 have HU:Aside _:=hup
 clear hL ht hN hup hm
 go_enter Tryz.func22,Tryz.ntmps22
 go_wp2
 go_loopg [3,11] n (fun gg s3 s11 wr=>∃ i:Nat,s3=.int .i64 (upToP ls i:Nat)∧s11=.int .i64 (i:Nat)∧i≤n∧n - i≤gg∧wr=W)
 case atStart=>exact ⟨0,by simp [upToP],rfl,by omega,by omega,rfl⟩
 case round =>
  obtain ⟨i,rfl,rfl,hin,hgg,hwr⟩:=hrel
  have hwr':=hwr.symm
  clear hwr
  subst hwr'
  by_cases hlt:i<n
  ·have hltz:(i:Int)<(n:Int):=by omega
   have hils:i<ls.length:=by rw [HN.out];exact hlt
   obtain ⟨b,off,Ai,ci,hA,hcell,hVi,_⟩:=HL.out.at_ i hils
   have hsz:upToP ls i+ls[i].length≤1000000:=by
    have h1:=HU.out (i+1) (by omega)
    rw [q14l ls hils] at h1
    have:=HT.out
    omega
   rw [hVi] at hcell
   subst hA
   have hgr:=HU.out
   have c1:(0:Int)≤(upToP ls i:Nat):=by omega
   have hw1:wrap64 (((upToP ls i:Nat):Int)+(ls[i].length:Nat))=((upToP ls (i+1):Nat):Int):=by rw [q14l ls hils];unfold wrap64;omega
   have hw2:wrap64 ((i:Int)+1)=((i+1:Nat):Int):=by unfold wrap64;omega
   have c2:¬ ((upToP ls (i+1):Nat):Int)<0:=by omega
   clear hVi hgr hsz
   go_wp2
   go_roundg (n - (i+1))
   case measure=>omega
   case rel=>exact ⟨i+1,rfl,rfl,by omega,Nat.le_refl _,rfl⟩
  ·obtain rfl:i=n:=by omega
   have hltz:¬ (i:Int)<(i:Int):=by omega
   have etot:upToP ls i=ls.flatten.length:=by unfold upToP;rw [←HN.out,List.take_length]
   rw [etot]
   have hgrow:=qj6 (Bel.refl W) ls.flatten.length HT.out
   have ET:Aside (upToP ls i=ls.flatten.length):=etot
   generalize hF:ls.flatten.length=tot at *
   have HF:Aside (ls.flatten.length=tot):=hF
   clear etot hF
   go_wp2_with (go_at_call 56;refine hgrow.mono ?_;rintro e w1 ⟨v1,rfl,hb1,hg1⟩)
   have HG:Aside _:=hg1
   have HB:Aside _:=hb1
   clear hg1 hb1 hgrow
   go_loopg [6,27] i (fun gg s6 s27 wq=>∃ k:Nat,s27=.int .i64 (k:Nat)∧k≤i∧i - k≤gg∧Aside (Bel W wq∧GrowsP W wq s6 tot (ls.take k).flatten))
   case atStart=>exact ⟨0,rfl,by omega,by omega,HB.out,HG.out⟩
   case round =>
    obtain ⟨k,rfl,hki,hgg2,hinv⟩:=hrel
    obtain ⟨hbq,hgq⟩:=hinv.out
    by_cases hlt2:k<i
    ·have hltz2:(k:Int)<(i:Int):=by omega
     have hils:k<ls.length:=by rw [HN.out];exact hlt2
     obtain ⟨b,off,Ai,ci,hA,hcell,hVi,hx⟩:=HL.out.at_ k hils
     have hroom:(ls.take k).flatten.length+ls[k].length≤tot:=by
      have h1:=HU.out (k+1) (by omega)
      rw [q14l ls hils] at h1
      exact h1
     have hcell2:wr.cell? ⟨b,off+k,none⟩=some (V k):=by rw [hbq.cell _ (q8u hcell)];exact hcell
     subst hA
     obtain ⟨v',w',happ,hb',hg'⟩:=qjc hgq hbq hroom (ci:=ci) hx
     rw [←hVi] at happ
     have hone:(V k).oneCell'=true:=by rw [hVi];rfl
     have hcls:(V k).cells=#[V k]:=by rw [hVi];rfl
     generalize V k=sv at hcell2 happ hone hcls
     have enx:(ls.take (k+1)).flatten=(ls.take k).flatten++ls[k]:=by rw [q12x hils,List.flatten_append];simp
     rw [←enx] at hg'
     have HI:Aside (Bel W w'∧GrowsP W w' v' tot (ls.take (k+1)).flatten):=⟨hb',hg'⟩
     have hw2:wrap64 ((k:Int)+1)=((k+1:Nat):Int):=by unfold wrap64;omega
     have HA:Aside (∀ ty,(Builtin.append_ #[31,31] ty #[u6,sv]).run Tryz.prog wr=.ok v' w'):=happ
     clear hVi hcell hx hbq hgq hinv hb' hg' enx hroom happ
     go_wp2_with (at_builtin;refine q15a rfl (.tmp 31) (.tmp 32) 31 31 rfl rfl rfl (HA.out _) ?_)
     go_roundg (i - (k+1))
     case measure=>omega
     case rel=>exact ⟨k+1,rfl,by omega,Nat.le_refl _,HI⟩
    ·obtain rfl:k=i:=by omega
     have hltz2:¬ (k:Int)<(k:Int):=by omega
     have etk:(ls.take k).flatten=ls.flatten:=by rw [←HN.out,List.take_length]
     rw [etk] at hgq
     have HI:Aside (Bel W wr∧GrowsP W wr u6 tot ls.flatten):=⟨hbq,hgq⟩
     clear hbq hgq hinv etk
     go_wp2
     go_ret
     have:=HI.out
     rw [←HF.out] at this
     exact ⟨u6,rfl,this.1,by simpa using this.2⟩
theorem q8k (ls:List (List Pd)) (ht:ls.flatten.length≤1000000):CallOk Tryz.prog 22 [.c (.sl (qdg.encL ls))] (.row 0 ls.flatten.length,[.row (qde.encL ls.flatten)]):=by
 refine ⟨rfl,(fun b hb=>⟨_,by simpa using hb⟩),fun W Z Y cargs hG hZ hY hs hr=>?_⟩
 have hs1:cargs.size=1:=hs
 obtain ⟨u,hu⟩:∃ u,cargs[0]?=some u:=⟨cargs[0]'(by omega),Array.getElem?_eq_getElem _⟩
 have r0:=hr 0 u _ hu rfl
 cases r0 with
 |c r0 =>
 obtain rfl:cargs=#[u]:=by
  apply Array.ext (by simpa using hs1)
  intro i h1 h2
  have:i=0:=by simp at h2;omega
  subst this
  rw [Array.getElem?_eq_getElem h1] at hu
  injection hu
 obtain ⟨A,c,V,rfl,hc,hm,hN,hL⟩:=qpc hZ r0
 refine (q8j hL hc hm ht).mono fun e w'=>?_
 rintro ⟨v,rfl,hb,hg⟩
 generalize ls.flatten=F at *
 have hZ':∀ b o u,Z b o=some u→w'.cell? ⟨b,o,none⟩=some u:=fun b o u h=>by have:=hZ b o u h;rw [hb.cell _ (q8u this)];exact this
 rcases hg with ⟨h0,rfl,hF⟩|⟨g,c',t,cur,rfl,hgb,hc',hm',hle,hp,hv,hcs,hcur⟩
 ·rw [hF]
  refine ⟨_,Z,fun i=>if i=0 then some (.slice none 0 0) else none,rfl,ZUp.refl,⟨q153.2 hb,⟨hG,GB.no⟩,hZ',(fun _ _ _ h=>by cases h),?_,?_,?_,?_,?_⟩,.row 0 0 none 0 (by simp) (by simp),?_⟩
  ·intro id cs h
   cases id <;> simp at h
  ·intro id es h
   cases id with
   |zero=>simp [EC.encL] at h;subst h;exact .inl ⟨by simp,rfl⟩
   |succ id=>simp at h
  ·intro id es q v h
   cases id <;> simp at h
  ·intro id l h
   cases id <;> simp at h
  ·intro id id' g _ _ h
   unfold blkOf at h
   by_cases h0:id=0 <;> simp [h0] at h
  ·intro i h
   by_cases h0:i=0
   ·subst h0;simp
   ·simp [h0] at h
 ·refine ⟨_,Z,fun i=>if i=0 then some (.slice (some ⟨g,0,none⟩) F.length c') else none,rfl,ZUp.refl,⟨q153.2 hb,⟨hG,GB.no⟩,hZ',(fun _ _ _ h=>by cases h),?_,?_,?_,?_,?_⟩,.row 0 F.length _ c' (by simp) (fun _=>⟨g,rfl⟩),?_⟩
  ·intro id cs h
   cases id <;> simp at h
  ·intro id es h
   cases id with
   |succ id=>simp at h
   |zero =>
    simp at h;subst h
    refine .inr ⟨g,F.length,c',2,by simp,⟨.inl hgb,⟨t,(0,0),cur,hv,hcs,by simp,fun i e j x h1 h2=>?_⟩,by simp,by omega,hm',by decide,fun h=>?_,RowP.each,(fun o ho=>?_)⟩⟩
    ·obtain ⟨y,hy,rfl⟩:=qdo h1
     obtain ⟨c1,c2⟩:=hcur i y hy
     match j with
     |0=>simp at h2;subst h2;exact ⟨_,c1,.int _ _⟩
     |1=>simp at h2;subst h2;exact ⟨_,c2,.int _ _⟩
     |j+2=>simp at h2
    ·exact absurd h (by omega)
    ·cases hzz:Z g o with
     |none=>exact absurd hzz ho
     |some u=>have:=q8u (hZ g o u hzz);omega
  ·intro id es q v h
   cases id <;> simp at h
  ·intro id l h
   cases id <;> simp at h
  ·intro id id' g' h1 h2 _ _
   cases id with
   |succ id=>simp at h1
   |zero=>cases id' with
    |succ id'=>simp at h2
    |zero=>rfl
  ·intro i h
   by_cases h0:i=0
   ·subst h0;simp
   ·simp [h0] at h
set_option maxRecDepth 1000000 in
theorem qx8:callD Tryz.prog (fzL lv) X0.c (execD Tryz.prog lv X0 200) 4 []=some (.c (.bool true),[]):=by kernel_rfl
def cVal:C→Option Value
 |.int k n=>some (.int k n)
 |.bool b=>some (.bool b)
 |.str s=>some (.string s)
 |_=>none
def cellV:V→Option Value
 |.c x=>cVal x
 |_=>none
def mapO {α β:Type} (f:α→Option β):List α→Option (List β)
 |[]=>some []
 |x::l=>match f x,mapO f l with
  |some y,some r=>some (y::r)
  |_,_=>none
def aggV:V→Option Value
 |.agg l=>(mapO cellV l).map fun vs=>.agg vs.toArray
 |v=>cellV v
def topV:V→Option Value
 |.tup l=>(mapO aggV l).map fun vs=>.tuple vs.toArray
 |v=>aggV v
section
variable {Z Y:ZMap} {m:Nat→Option Value}
theorem qpy {α β:Type} {f:α→Option β}:∀ {l:List α} {r:List β},mapO f l=some r→r.length=l.length
 |[],r,h=>by injection h with h;subst h;rfl
 |x::l,r,h=>by
  unfold mapO at h
  split at h
  ·rename_i y r' h1 h2
   injection h with h
   subst h
   simp [qpy h2]
  ·cases h
theorem qpx {α β:Type} {f:α→Option β}:∀ {l:List α} {r:List β},mapO f l=some r→∀ (i:Nat) x,l[i]?=some x→∃ y,r[i]?=some y∧f x=some y
 |[],r,h,i,x,hx=>by simp at hx
 |a::l,r,h,i,x,hx=>by
  unfold mapO at h
  split at h
  ·rename_i y r' h1 h2
   injection h with h
   subst h
   cases i with
   |zero=>simp at hx;subst hx;exact ⟨y,rfl,h1⟩
   |succ i=>simpa using qpx h2 i x (by simpa using hx)
  ·cases h
theorem q8p {v u:Value} {x:V} (r:Rep Z Y m v x) (h:cellV x=some u):v=u:=by
 cases x with
 |c x =>
  cases r with
  |c r=>cases r <;> simp [cellV,cVal] at h <;> exact h
 |_=>cases h
theorem q8q {u:Value} {x:V} (h:cellV x=some u):Rep Z Y m u x∧u.oneCell'=true:=by
 cases x with
 |c x =>
  cases x <;> simp [cellV,cVal] at h
  all_goals
   subst h
   refine ⟨.c ?_,rfl⟩
   constructor
 |_=>cases h
theorem qpb {f:V→Option Value} {cs:Array Value} {Cs:List V} {vs:List Value} (hl:cs.size=Cs.length) (hr:∀ (i:Nat) (u:Value) (x:V),cs[i]?=some u→Cs[i]?=some x→Rep Z Y m u x)
  (h:mapO f Cs=some vs) (hf:∀ v u x,Rep Z Y m v x→f x=some u→v=u):cs=vs.toArray:=by
 have hv:=qpy h
 apply Array.ext (by simp [hl,hv])
 intro i h1 h2
 have hi:i<Cs.length:=by omega
 obtain ⟨y,hy,hfy⟩:=qpx h i _ (List.getElem?_eq_getElem hi)
 have:=hf _ _ _ (hr i _ _ (Array.getElem?_eq_getElem h1) (List.getElem?_eq_getElem hi)) hfy
 rw [this]
 have h3:i<vs.length:=by omega
 rw [List.getElem?_eq_getElem h3] at hy
 injection hy with hy
 simp [hy]
theorem q1f {v u:Value} {x:V} (r:Rep Z Y m v x) (h:aggV x=some u):v=u:=by
 cases x with
 |agg l =>
  cases r with
  |agg cs _ hl h1 hr =>
   simp only [aggV] at h
   cases hm:mapO cellV l with
   |none=>rw [hm] at h;cases h
   |some vs =>
    rw [hm] at h
    injection h with h
    subst h
    rw [qpb hl hr hm (fun v u x r h=>q8p r h)]
 |c x=>exact q8p r h
 |_=>cases h
theorem q134 {v u:Value} {x:V} (r:Rep Z Y m v x) (h:topV x=some u):v=u:=by
 cases x with
 |tup l =>
  cases r with
  |tup cs _ hl hr =>
   simp only [topV] at h
   cases hm:mapO aggV l with
   |none=>rw [hm] at h;cases h
   |some vs =>
    rw [hm] at h
    injection h with h
    subst h
    rw [qpb hl hr hm (fun v u x r h=>q1f r h)]
 |agg l=>exact q1f r h
 |c x=>exact q8p r h
 |_=>cases h
theorem q1g {u:Value} {x:V} (h:aggV x=some u):Rep Z Y m u x:=by
 cases x with
 |agg l =>
  simp only [aggV] at h
  cases hm:mapO cellV l with
  |none=>rw [hm] at h;cases h
  |some vs =>
   rw [hm] at h
   injection h with h
   subst h
   have hv:=qpy hm
   have hg:∀ (i:Nat) (u:Value) (x:V),vs[i]?=some u→l[i]?=some x→cellV x=some u:=fun i u x hu hx=>by
    obtain ⟨y,hy,h2⟩:=qpx hm i x hx
    rw [hu] at hy
    injection hy with hy
    rw [hy];exact h2
   refine .agg _ _ (by simp [hv]) (fun u hu=>?_) (fun i u x hu hx=>(q8q (hg i u x (by simpa using hu) hx)).1)
   obtain ⟨i,hi,rfl⟩:=List.getElem_of_mem hu
   have hi':i<vs.length:=by simpa using hi
   have hil:i<l.length:=by omega
   have:=hg i _ _ (List.getElem?_eq_getElem hi') (List.getElem?_eq_getElem hil)
   exact (q8q (Z:=Z) (Y:=Y) (m:=m) this).2
 |c x=>exact (q8q (x:=.c x) h).1
 |_=>cases h
end
theorem q88 {f:FuncId} {args:List V} {x:V} {u:Value} (h:CallOk Tryz.prog f args (x,[])) (hu:topV x=some u) {w:World} (hG:GW w) (Z:ZMap) (hZ:∀ b o u,Z b o=some u→w.cell? ⟨b,o,none⟩=some u) {cargs:Array Value} (hs:cargs.size=args.length)
  (hr:∀ (i:Nat) u x,cargs[i]?=some u→args[i]?=some x→Rep Z (fun _ _=>none) noM u x):Calls Tryz.prog f cargs w fun e w'=>e=.returned u∧Bel w w':=by
 refine (h.2.2 w Z (fun _ _=>none) cargs hG hZ (fun _ _ _ h=>by cases h) hs hr).mono fun e w'=>?_
 rintro ⟨cv,Z',m',rfl,_,R,r,_⟩
 rw [q134 r hu]
 exact ⟨rfl,q153.1 R.bel⟩
theorem q37 {args:List V} {us:List Value} (h:mapO aggV args=some us) {Z Y:ZMap} {m:Nat→Option Value}:us.toArray.size=args.length∧∀ (i:Nat) u x,us.toArray[i]?=some u→args[i]?=some x→Rep Z Y m u x:=by
 refine ⟨by simp [qpy h],fun i u x hu hx=>?_⟩
 obtain ⟨y,hy,h2⟩:=qpx h i x hx
 have:us[i]?=some u:=by simpa using hu
 rw [this] at hy
 injection hy with hy
 rw [hy]
 exact q1g h2
theorem q87 {f:FuncId} {args:List V} {us:List Value} {x:V} {u:Value} (h:CallOk Tryz.prog f args (x,[])) (ha:mapO aggV args=some us) (hu:topV x=some u) {w:World} (hG:GW w):Calls Tryz.prog f us.toArray w fun e w'=>e=.returned u∧Bel w w' :=
 q88 h hu hG (fun _ _=>none) (fun _ _ _ h=>by cases h) (q37 ha (Z:=fun _ _=>none) (Y:=fun _ _=>none) (m:=noM)).1 (q37 ha).2
end Go.Proofs.YtfakibajjibjjaaGreatDoor
