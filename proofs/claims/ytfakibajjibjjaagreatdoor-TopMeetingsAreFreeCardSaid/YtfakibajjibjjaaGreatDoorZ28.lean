/- slices.DeleteFunc at periods, as freebusy.Union calls it. -/
import Derived.Test.YtfakibajjibjjaaGreatDoorZ21
import Derived.Test.YtfakibajjibjjaaGreatDoorZ27
import Derived.Test.YtfakibajjibjjaaGreatDoorZ26
import Derived.Shelf.SlSortCmp.WholeK
import Derived.Test.YtfakibajjibjjaaGreatDoorChecked
import Derived.Shelf.SlSortCmp.NoneTotal
namespace Go.Proofs.YtfakibajjibjjaaGreatDoor
set_option linter.unusedSimpArgs false
open Go.RowKit
def Zw (w:World):ZMap:=fun b o=>w.cell? ⟨b,o,none⟩
def Z0:ZMap:=fun _ _=>none
def RowP (w:World) (g n c:Nat) (l:List Pd):Prop :=
 (∃ t fz cur,w.heap[g]?=some (.cells cur t fz)∧cur.size=c*2∧fz=(0,0)∧∀ (i:Nat) (x:Pd),l[i]?=some x→cur[i*2]?=some (.int .i64 x.From)∧cur[i*2+1]?=some (.int .i64 x.To)) ∧
  l.length=n∧n≤c∧c≤maxLen∧0<n
theorem qdo {l:List Pd} {i:Nat} {e:List C} (h:(qde.encL l)[i]?=some e):∃ x,l[i]?=some x∧e=[.int .i64 x.From,.int .i64 x.To]:=by
 rw [EC.encL,List.getElem?_map] at h
 cases hx:l[i]? with
 |none=>rw [hx] at h;cases h
 |some x=>rw [hx] at h;injection h with h;exact ⟨x,rfl,h.symm⟩
theorem RowP.cell {w:World} {g n c:Nat} {l:List Pd} (h:RowP w g n c l) {i j:Nat} {e:List C} {x:C} (h1:(qde.encL l)[i]?=some e) (h2:e[j]?=some x):∃ u,w.cell? ⟨g,i*2+j,none⟩=some u∧∀ Z,RepC Z u x:=by
 obtain ⟨⟨t,fz,cur,hv,_,_,hc⟩,_⟩:=h
 obtain ⟨y,hy,rfl⟩:=qdo h1
 obtain ⟨c1,c2⟩:=hc i y hy
 match j with
 |0=>simp at h2;subst h2;exact ⟨.int .i64 y.From,by simp only [World.cell?,hv];exact c1,fun Z=>.int _ _⟩
 |1=>simp at h2;subst h2;exact ⟨.int .i64 y.To,by simp only [World.cell?,hv];exact c2,fun Z=>.int _ _⟩
 |j+2=>simp at h2
theorem RowP.each {l:List Pd}:∀ e∈qde.encL l,e.length=2:=fun e he=>by
 rw [EC.encL,List.mem_map] at he
 obtain ⟨x,_,rfl⟩:=he
 rfl
theorem RowP.repc {w:World} {g n c:Nat} {l:List Pd} (h:RowP w g n c l):RepC (Zw w) (.slice (some ⟨g,0,none⟩) n c) (.sl (qde.encL l)):=by
 have hl:=h.2.1
 refine .sl _ n c 2 g 0 (fun j=>(w.cell? ⟨g,j,none⟩).getD undef) _ (by simp [hl]) h.2.2.1 h.2.2.2.1 RowP.each (fun _=>rfl) ?_ ?_ (by simp)
 ·intro i e j x h1 h2
  obtain ⟨u,hu,_⟩:=h.cell h1 h2
  simp only [Zw,Nat.zero_add,hu,Option.getD_some]
 ·intro i e j x h1 h2
  obtain ⟨u,hu,hr⟩:=h.cell h1 h2
  simp only [hu,Option.getD_some]
  exact hr _
theorem RowP.rel {W w:World} {g n c:Nat} {l:List Pd} (h:RowP w g n c l) (hG:GW W) (hb:Bel W w) (hg:W.heap.size≤g) :
  Rel (wb W) Z0 Z0 (fun i=>if i=0 then some (.slice (some ⟨g,0,none⟩) n c) else none) (fun j=>([some (B.row (qde.encL l))][j]?).getD none) (fun j=>([false][j]?).getD false) w:=by
 obtain ⟨⟨t,fz,cur,hv,hs,hf,hc⟩,hl,hle,hm,hp⟩:=h
 refine ⟨q153.2 hb,⟨hG,GB.no⟩,(fun _ _ _ h=>by cases h),(fun _ _ _ h=>by cases h),?_,?_,?_,?_,?_⟩
 ·intro id cs h
  cases id <;> simp at h
 ·intro id es h
  cases id with
  |succ id=>simp at h
  |zero =>
   simp at h;subst h
   refine .inr ⟨g,n,c,2,by simp,⟨q154.2 hg,⟨t,fz,cur,hv,hs,⟨by subst hf;simp,fun _=>hf,by subst hf;simp⟩,fun i e j x h1 h2=>?_⟩,by simp [hl],hle,hm,by decide,by omega,RowP.each,(fun o ho=>absurd rfl ho)⟩⟩
   obtain ⟨y,hy,rfl⟩:=qdo h1
   obtain ⟨c1,c2⟩:=hc i y hy
   match j with
   |0=>simp at h2;subst h2;exact ⟨_,c1,.int _ _⟩
   |1=>simp at h2;subst h2;exact ⟨_,c2,.int _ _⟩
   |j+2=>simp at h2
 ·intro id es i v h
  cases id <;> simp at h
 ·intro id l h
  cases id <;> simp at h
 ·intro id id' g' h1 h2 _ _
  cases id with
  |succ id=>simp at h1
  |zero=>cases id' with
   |succ id'=>simp at h2
   |zero=>rfl
theorem q5a {Z Y:ZMap} {m:Nat→Option Value}:Rep Z Y m (.func (.func 52) #[] #[]) (.fn 52 []):=.fn _ #[] [] rfl (by simp) (by decide)
theorem qcb {w:World} (hG:GW w) {g n c:Nat} {l:List Pd} (h:RowP w g n c l):Calls Tryz.prog 95 #[.slice (some ⟨g,0,none⟩) n c,.func (.func 52) #[] #[]] w fun e w'=>e=.returned (.int .i64 (gidx badP 0 l))∧Bel w w':=by
 have hl:l.length≤9223372036854775807:=by have:=h.2;unfold maxLen at this;omega
 have ok:=qj Tryz.prog lv X0 qsi X0_ok (qf3 (q143 l hl))
 refine (ok.2.2 w (Zw w) Z0 _ hG (fun _ _ _ h=>h) (fun _ _ _ h=>by cases h) rfl ?_).mono fun e w'=>?_
 ·intro i u x hu hx
  match i with
  |0=>simp at hu;subst hu;injection hx with hx;subst hx;exact .c h.repc
  |1=>simp at hu;subst hu;injection hx with hx;subst hx;exact q5a
  |i+2=>simp at hu
 ·rintro ⟨cv,Z',m',rfl,_,R,r,_⟩
  cases r with
  |c r =>
  cases r
  exact ⟨rfl,q153.1 R.bel⟩
theorem q13j (n:Nat) (i j:Int) (b:List Pd):canon (headOf lv 50 (qix (cdF Tryz.f50) 5)) (headS lv 50 (qix (cdF Tryz.f50) 5) (q13o.c.enc ((n,(),i,j),b)).st)=(q13o.c.enc ((n,(),i,j),b)).st:=by
 have h:canK (headOf lv 50 (qix (cdF Tryz.f50) 5)) (headS lv 50 (qix (cdF Tryz.f50) 5) (q13o.c.enc ((n,(),i,j),b)).st) (fun ls=>some ls)=some (q13o.c.enc ((n,(),i,j),b)):=by kernel_rfl
 obtain ⟨ls,h1,h2⟩:=q89 h
 rw [h1,Option.some.inj h2]
theorem q9n {w:World} {g c n:Nat} {i:Nat} {t:TypeId} {fz:Nat×Nat} {cur:Array Value} (hv:w.heap[g]?=some (.cells cur t fz)) (hs:cur.size=c*2) (hf0:fz=(0,0)) (hi:i≤n) (hn:n≤c) :
  ∃ w',(∀ ty cap,(Builtin.clear_ #[31] ty #[.slice (some ⟨g,i*2,none⟩) (n - i) cap]).run Tryz.prog w=.ok (.tuple #[]) w')∧Wr g w w'∧∃ cur',w'.heap[g]?=some (.cells cur' t fz)∧cur'.size=c*2∧∀ q,q<i*2→cur'[q]?=cur[q]?:=by
 have hf:∀ o,o<cur.size→¬ (fz.1≤o∧o<fz.2):=by subst hf0;simp
 have hz:∀ w,(zeroValue 24).run Tryz.prog w=.ok (.agg #[.int .i64 0,.int .i64 0]) w:=fun w=>by simp only [zeroValue,Sem.run_bind,Tryz.typeInfo24,Result.andThen_ok];rfl
 by_cases h0:n - i=0
 ·refine ⟨w,fun ty cap=>?_,Wr.refl g w,cur,hv,hs,fun _ _=>rfl⟩
  rw [h0]
  simp [Builtin.clear_,run_underlying Tryz.underlying31]
 ·have hlen:(Builtin.zeroCells (Value.agg #[.int .i64 0,.int .i64 0]).cells (n - i)).toList.length=(n - i)*2:=by simp [Builtin.zeroCells,Value.cells]
  obtain ⟨w',r1,r2,r3⟩:=qwi (P:=Tryz.prog) (o:=i*2) (Builtin.zeroCells (Value.agg #[.int .i64 0,.int .i64 0]).cells (n - i)).toList 0 w cur hv (fun u hu=>by
   simp only [Builtin.zeroCells,Value.cells,Array.toList_map,List.mem_map] at hu
   obtain ⟨q,_,rfl⟩:=hu
   have:q % 2=0∨q % 2=1:=by omega
   rcases this with e|e <;> simp [e] <;> rfl) (by rw [hlen,hs];omega) hf
  refine ⟨w',fun ty cap=>?_,r2,_,r3,by rw [qgz,hs],fun q hq=>qgw _ _ _ _ _ (by omega)⟩
  obtain ⟨m,hm⟩:∃ m,n - i=m+1:=⟨n - i - 1,by omega⟩
  rw [hm] at r1 ⊢
  simp [Builtin.clear_,run_underlying Tryz.underlying31,hz,r1]
theorem q15 {tm:Array Value} {n:Nat} (h:tm.size=n):tm=((List.range n).map fun i=>tm.getD i undef).toArray:=by
 apply Array.ext
 ·simp [h]
 ·intro i h1 h2
  simp [Array.getD_eq_getD_getElem?,h1]
set_option maxHeartbeats 4000000 in
set_option maxRecDepth 1000000 in
theorem qc8 {W w:World} (hG:GW W) {g n c:Nat} {l:List Pd} (hb:Bel W w) (hg:W.heap.size≤g) (h:RowP w g n c l) :
  Calls Tryz.prog 50 #[.slice (some ⟨g,0,none⟩) n c,.func (.func 52) #[] #[]] w fun e w'=>∃ g' c',e=.returned (.slice (some ⟨g',0,none⟩) (l.filter fun p=>!badP p).length c')∧Bel W w'∧W.heap.size≤g'∧(l.filter fun p=>!badP p).length≤c'∧c'≤maxLen∧(0<(l.filter fun p=>!badP p).length→RowP w' g' (l.filter fun p=>!badP p).length c' (l.filter fun p=>!badP p)):=by
 have hi:=qcb (gw_bel hG hb) h
 rcases qj3 badP l 0 with ⟨h1,h2⟩|⟨i,hil,h1,h2,h3⟩
 ·rw [h1] at hi
  go_enter Tryz.func50,Tryz.ntmps50
  go_wp2_with (go_at_call 95;refine hi.mono ?_;rintro e w' ⟨rfl,hb'⟩)
  go_ret
  have e:l.filter (fun p=>!badP p)=l:=List.filter_eq_self.2 fun x hx=>by simp [h2 x hx]
  rw [e,h.2.1]
  refine ⟨g,c,rfl,hb.trans hb',hg,h.2.2.1,h.2.2.2.1,fun _=>?_⟩
  obtain ⟨⟨t,fz,cur,hv,hr⟩,h0⟩:=h
  refine ⟨⟨t,fz,cur,?_,hr⟩,h0⟩
  rw [hb'.block g (qk9 hv)];exact hv
 ·rw [h1,Nat.zero_add] at hi
  have hne:((i:Int)==-1)=false:=beq_eq_false_iff_ne.2 (by omega)
  have hl:=h.2.1
  have hlM:l.length≤9223372036854775807:=by have:=h.2;unfold maxLen at this;omega
  have hwr:wrap64 ((i:Int)+1)=((i+1:Nat):Int):=by unfold wrap64;omega
  obtain ⟨b',hu,hbl,hbt⟩:=q13q n (by omega) (n - (i+1)) i (i+1) l (by omega) (by omega) hl (by omega)
  have ef:l.take i++(l.drop (i+1)).filter (fun p=>!badP p)=l.filter fun p=>!badP p:=by
   have e1:l.filter (fun p=>!badP p)=(l.take i).filter (fun p=>!badP p)++(l.drop i).filter fun p=>!badP p:=by rw [←List.filter_append,List.take_append_drop]
   have e2:(l.take i).filter (fun p=>!badP p)=l.take i:=List.filter_eq_self.2 fun x hx=>by simp [h3 x hx]
   have e3:(l.drop i).filter (fun p=>!badP p)=(l.drop (i+1)).filter fun p=>!badP p:=by
    rw [qcv hil,List.filter_cons,h2];rfl
   rw [e1,e2,e3]
  have el:i+((l.drop (i+1)).filter fun p=>!badP p).length=(l.filter fun p=>!badP p).length:=by
   rw [←ef,List.length_append,List.length_take];omega
  rw [ef,el] at hbt
  rw [el] at hu
  have hk:(l.filter fun p=>!badP p).length≤n:=by rw [←hl];exact List.length_filter_le _ _
  have hk':(l.filter fun p=>!badP p).length<n:=by
   have:=List.length_filter_le (fun p=>!badP p) (l.drop (i+1))
   rw [List.length_drop] at this
   omega
  generalize hF:l.filter (fun p=>!badP p)=F at *
  go_enter Tryz.func50,Tryz.ntmps50
  go_wp2_with (go_at_call 95;refine hi.mono ?_;rintro e w' ⟨rfl,hb'⟩)
  rename_i K hK
  have h':RowP w' g n c l:=by
   obtain ⟨⟨t,fz,cur,hv,hr⟩,h0⟩:=h
   refine ⟨⟨t,fz,cur,?_,hr⟩,h0⟩
   rw [hb'.block g (qk9 hv)];exact hv
  have R:=h'.rel hG (hb.trans hb') hg
  have ok:=lS_ok qsi X0_ok hu (q13j _ _ _ _) Z0 (wb W)
  refine ok [] (fun _=>none) Z0 _ _ _ ⟨⟨rfl,fun q=>?_⟩,R,(fun _ _ _ _ h=>by cases h),rfl⟩ ?_ _ ?_
  ·show Rep _ _ _ _ (tb [(0,V.row 0 n),(1,V.fn 52 []),(5,V.c (.int .i64 i)),(6,V.c (.int .i64 ((i:Int)+1)))] q)
   match q with
   |0=>exact .row 0 n _ c (by simp) (fun _=>⟨g,rfl⟩)
   |1=>exact q5a
   |5=>exact .c (.int _ _)
   |6 =>
    have e:((i+1:Nat):Int)=(i:Int)+1:=by omega
    rw [←e,←hwr]
    exact .c (.int _ _)
   |2=>exact .any _
   |3=>exact .any _
   |4=>exact .any _
   |q+7=>exact .any _
  ·intro q hq
   show q<1
   cases q with
   |zero=>decide
   |succ q=>simp at hq
  ·intro a' w2 Z' m' hz' hm' F'
   have hsz:a'.tmps.size=42:=F'.fr.size
   have hdf:a'.defers=[]:=F'.df
   have r0:Rep Z' Z0 m' (a'.tmps.getD 0 undef) (.row 0 n):=F'.fr.rep 0
   have r5:Rep Z' Z0 m' (a'.tmps.getD 5 undef) (.c (.int .i64 (F.length:Int))):=F'.fr.rep 5
   have hR:=F'.rel.row 0 (qde.encL b') rfl
   have hlit:=q15 hsz
   obtain ⟨tm,df⟩:=a'
   simp only at hsz hdf r0 r5 hlit
   subst hdf
   generalize hT:(fun i=>tm.getD i undef)=T at *
   have hT0:tm.getD 0 undef=T 0:=by rw [←hT]
   have hT5:tm.getD 5 undef=T 5:=by rw [←hT]
   rw [hT0] at r0
   rw [hT5] at r5
   rw [show List.range 42=[0,1,2,3,4,5,6,7,8,9,10,11,12,13,14,15,16,17,18,19,20,21,22,23,24,25,26,27,28,29,30,31,32,33,34,35,36,37,38,39,40,41] from rfl] at hlit
   simp only [List.map_cons,List.map_nil] at hlit
   clear hT hT0 hT5 hsz
   subst hlit
   have e5:T 5=.int .i64 (F.length:Int):=by
    generalize T 5=v at r5
    cases r5 with|c r5=>cases r5;rfl
   have hn0:n≠0:=by omega
   obtain ⟨g',c',e0,hm0⟩:∃ g' c',T 0=.slice (some ⟨g',0,none⟩) n c'∧m' 0=some (.slice (some ⟨g',0,none⟩) n c'):=by
    generalize T 0=v at r0
    cases r0 with
    |row _ _ A c h hA =>
     obtain ⟨g',rfl⟩:=hA hn0
     exact ⟨g',c,rfl,h⟩
    |row0 _ A h=>exact absurd rfl hn0
   obtain ⟨k,hat⟩:∃ k,RowAt (wb W).own Z' false w2 g' n c' k (qde.encL b'):=by
    rcases hR with ⟨h0,_⟩|⟨g2,n2,c2,k,h0,hat⟩
    ·rw [hm0] at h0;cases h0
    ·rw [hm0] at h0
     injection h0 with h0;injection h0 with a1 a2 a3;injection a1 with a1;injection a1 with a1
     subst a1 a2 a3
     exact ⟨k,hat⟩
   have hk2:k=2:=by
    have hx:b'≠[]:=by intro e;rw [e] at hbl;simp at hbl;omega
    obtain ⟨x,xs,rfl⟩:=List.exists_cons_of_ne_nil hx
    exact (hat.each _ (List.mem_map_of_mem (List.mem_cons_self ..))).symm
   subst hk2
   obtain ⟨t,fz,cur,hv,hcs,hfz,hcell⟩:=hat.ex
   have hbase:W.heap.size≤g':=q154.1 hat.base
   have hfz0:fz=(0,0):=hfz.2.1 (by decide)
   have hcur:∀ (q:Nat) (x:Pd),b'[q]?=some x→cur[q*2]?=some (.int .i64 x.From)∧cur[q*2+1]?=some (.int .i64 x.To):=fun q x hx=>by
    have he:(qde.encL b')[q]?=some [.int .i64 x.From,.int .i64 x.To]:=by rw [EC.encL,List.getElem?_map,hx];rfl
    obtain ⟨u0,a0,b0⟩:=hcell q _ 0 _ he rfl
    obtain ⟨u1,a1,b1⟩:=hcell q _ 1 _ he rfl
    cases b0;cases b1
    exact ⟨a0,a1⟩
   have hle':=hat.le
   have hmx:=hat.max
   have hW2:Bel W w2:=q153.1 F'.rel.bel
   obtain ⟨w3,hrun,hwr3,cur3,hv3,hs3,hc3⟩:=q9n (n:=n) hv hcs hfz0 hk hle'
   refine hK _ _ ?_
   rw [e0,e5]
   clear F' r0 r5 ok R hm' hcell hat hu hi
   have hg':W.heap.size≤g':=hbase
   have hcF:¬ c'=F.length:=by omega
   go_wp2
   go_ret
   refine ⟨g',c',rfl,q153.1 (Bel.wr (q153.2 hW2) (q154.2 hg') hwr3),hg',by omega,hmx,fun hp=>⟨⟨t,fz,cur3,hv3,hs3,hfz0,fun q x hx=>?_⟩,rfl,by omega,hmx,hp⟩⟩
   have hq:q<F.length:=(List.getElem?_eq_some_iff.1 hx).1
   have hx':b'[q]?=some x:=by rw [←hbt,List.getElem?_take,if_pos hq] at hx;exact hx
   rw [hc3 _ (by omega),hc3 _ (by omega)]
   exact hcur q x hx'
end Go.Proofs.YtfakibajjibjjaaGreatDoor
namespace Go.Proofs.YtfakibajjibjjaaGreatDoor
set_option linter.unusedSimpArgs false
open Go.Shelf
def qzw:Go.Shelf.Ren:=⟨fun|6=>53|15=>97|14=>96|28=>142|29=>143|20=>134|21=>135|22=>136|23=>137|24=>138|25=>139|26=>140|27=>141|46=>186|47=>187|48=>188|49=>189|50=>190|57=>220|n=>n,fun|22=>31|24=>24|25=>128|3=>3|39=>179|0=>0|53=>224|55=>55|4=>4|46=>218|45=>217|50=>171|5=>5|9=>9|66=>258|70=>262|76=>284|77=>250|n=>n,fun|n=>n⟩
theorem sortP:SlLaysF0.n6 Tryz.prog qzw:={
 mixed:=by kernel_rfl
 f6:=⟨Tryz.f53.name,by decide,Tryz.func53.trans (congrArg some (by kernel_rfl))⟩
 f14:=⟨Tryz.f96.name,by decide,Tryz.func96.trans (congrArg some (by kernel_rfl))⟩
 f15:=Tryz.func97.trans (congrArg some (by kernel_rfl))
 f20:=⟨Tryz.f134.name,by decide,Tryz.func134.trans (congrArg some (by kernel_rfl))⟩
 f21:=⟨Tryz.f135.name,by decide,Tryz.func135.trans (congrArg some (by kernel_rfl))⟩
 f22:=⟨Tryz.f136.name,by decide,Tryz.func136.trans (congrArg some (by kernel_rfl))⟩
 f23:=⟨Tryz.f137.name,by decide,Tryz.func137.trans (congrArg some (by kernel_rfl))⟩
 f24:=⟨Tryz.f138.name,by decide,Tryz.func138.trans (congrArg some (by kernel_rfl))⟩
 f25:=⟨Tryz.f139.name,by decide,Tryz.func139.trans (congrArg some (by kernel_rfl))⟩
 f26:=⟨Tryz.f140.name,by decide,Tryz.func140.trans (congrArg some (by kernel_rfl))⟩
 f27:=⟨Tryz.f141.name,by decide,Tryz.func141.trans (congrArg some (by kernel_rfl))⟩
 f28:=Tryz.func142.trans (congrArg some (by kernel_rfl))
 f29:=Tryz.func143.trans (congrArg some (by kernel_rfl))
 f46:=⟨Tryz.f186.name,by decide,Tryz.func186.trans (congrArg some (by kernel_rfl))⟩
 f47:=Tryz.func187.trans (congrArg some (by kernel_rfl))
 f48:=Tryz.func188.trans (congrArg some (by kernel_rfl))
 f49:=⟨Tryz.f189.name,by decide,Tryz.func189.trans (congrArg some (by kernel_rfl))⟩
 f50:=⟨Tryz.f190.name,by decide,Tryz.func190.trans (congrArg some (by kernel_rfl))⟩
 f57:=⟨Tryz.f220.name,by decide,Tryz.func220.trans (congrArg some (by kernel_rfl))⟩
 t0:=Tryz.underlying0
 a0:=Tryz.isAgg0
 z0:=Tryz.sizeOf0
 v0:=Tryz.zeroValue0
 t3:=Tryz.underlying3
 a3:=Tryz.isAgg3
 z3:=Tryz.sizeOf3
 v3:=Tryz.zeroValue3
 t4:=Tryz.underlying4
 a4:=Tryz.isAgg4
 z4:=Tryz.sizeOf4
 v4:=Tryz.zeroValue4
 t5:=Tryz.underlying5
 a5:=Tryz.isAgg5
 z5:=Tryz.sizeOf5
 v5:=Tryz.zeroValue5
 t9:=Tryz.underlying9
 a9:=Tryz.isAgg9
 z9:=Tryz.sizeOf9
 v9:=Tryz.zeroValue9
 t22:=Tryz.underlying31
 a22:=Tryz.isAgg31
 z22:=Tryz.sizeOf31
 v22:=Tryz.zeroValue31
 t25:=Tryz.underlying128
 a25:=Tryz.isAgg128
 z25:=Tryz.sizeOf128
 v25:=Tryz.zeroValue128
 t39:=Tryz.underlying179
 a39:=Tryz.isAgg179
 z39:=Tryz.sizeOf179
 v39:=Tryz.zeroValue179
 t45:=Tryz.underlying217
 a45:=Tryz.isAgg217
 z45:=Tryz.sizeOf217
 v45:=Tryz.zeroValue217
 t46:=Tryz.underlying218
 a46:=Tryz.isAgg218
 z46:=Tryz.sizeOf218
 v46:=Tryz.zeroValue218
 t50:=Tryz.underlying171
 a50:=Tryz.isAgg171
 z50:=Tryz.sizeOf171
 v50:=Tryz.zeroValue171
 t53:=Tryz.underlying224
 a53:=Tryz.isAgg224
 z53:=Tryz.sizeOf224
 v53:=Tryz.zeroValue224
 t55:=Tryz.underlying55
 a55:=Tryz.isAgg55
 z55:=Tryz.sizeOf55
 v55:=Tryz.zeroValue55
 t66:=Tryz.underlying258
 a66:=Tryz.isAgg258
 z66:=Tryz.sizeOf258
 v66:=Tryz.zeroValue258
 t70:=Tryz.underlying262
 a70:=Tryz.isAgg262
 z70:=Tryz.sizeOf262
 v70:=Tryz.zeroValue262
 t76:=Tryz.underlying284
 a76:=Tryz.isAgg284
 z76:=Tryz.sizeOf284
 v76:=Tryz.zeroValue284
 t77:=Tryz.underlying250
 a77:=Tryz.isAgg250
 z77:=Tryz.sizeOf250
 v77:=Tryz.zeroValue250 }
end Go.Proofs.YtfakibajjibjjaaGreatDoor
namespace Go.Proofs.YtfakibajjibjjaaGreatDoor
set_option linter.unusedSimpArgs false
open Go.RowKit Go.Sort
instance:Inhabited Pd:=⟨⟨0,0⟩⟩
def encP (x:Pd):List Value:=[.int .i64 x.From,.int .i64 x.To]
def cfP (x y:Pd):Int:=if x.From<y.From then -1 else if y.From<x.From then 1 else 0
theorem qsn (x:Int) (w:World):Calls Tryz.prog 98 #[.int .i64 x] w fun e w'=>e=.returned (.bool false)∧w'=w:=by
 go_enter Tryz.func98,Tryz.ntmps98
 go_wp2
 go_ret
 exact ⟨by simp,rfl⟩
theorem qa3 (x y:Int) (w:World):Calls Tryz.prog 55 #[.int .i64 x,.int .i64 y] w fun e w'=>e=.returned (.int .i64 (if x<y then -1 else if y<x then 1 else 0))∧w'=w:=by
 by_cases h1:x<y
 ·go_enter Tryz.func55,Tryz.ntmps55
  go_wp2_with (go_at_call 98;refine (qsn _ _).mono ?_;rintro e w' ⟨rfl,rfl⟩)
  go_ret
  exact ⟨by simp [h1],rfl⟩
 ·by_cases h2:y<x
  ·go_enter Tryz.func55,Tryz.ntmps55
   go_wp2_with (go_at_call 98;refine (qsn _ _).mono ?_;rintro e w' ⟨rfl,rfl⟩)
   go_ret
   exact ⟨by simp [h1,h2],rfl⟩
  ·go_enter Tryz.func55,Tryz.ntmps55
   go_wp2_with (go_at_call 98;refine (qsn _ _).mono ?_;rintro e w' ⟨rfl,rfl⟩)
   go_ret
   exact ⟨by simp [h1,h2],rfl⟩
theorem qah (x y:Pd) (w:World):Calls Tryz.prog 54 #[.agg #[.int .i64 x.From,.int .i64 x.To],.agg #[.int .i64 y.From,.int .i64 y.To]] w fun e w'=>e=.returned (.int .i64 (cfP x y))∧∃ q os',w'=grow (w.drewN q) os':=by
 have hc:∀ w:World,Calls Tryz.prog 55 #[.int .i64 x.From,.int .i64 y.From] w fun e w'=>e=.returned (.int .i64 (cfP x y))∧w'=w:=fun w=>qa3 _ _ w
 generalize cfP x y=r at hc ⊢
 go_enter Tryz.func54,Tryz.ntmps54
 go_wp2_with (go_at_call 55;refine (hc _).mono ?_;rintro e w' ⟨rfl,rfl⟩)
 go_ret
 exact ⟨rfl,0,_,by rw [alloc_eq_grow,alloc_eq_grow,grow_grow];rfl⟩
theorem qpu (x y:Pd):ltOf cfP x y=decide (x.From<y.From):=by
 unfold ltOf cfP
 by_cases h1:x.From<y.From
 ·simp [h1]
 ·by_cases h2:y.From<x.From
  ·simp [h1,h2]
  ·simp [h1,h2]
theorem q8x:SWO (ltOf cfP):=by
 refine ⟨fun x=>by simp [qpu],fun x y z h1 h2=>?_,fun x y z h1 h2=>?_⟩
 ·rw [qpu] at *;simp at *;omega
 ·rw [qpu] at *;simp at *;omega
theorem qai (blk off size:Nat) (w:World):CmpLays Tryz.prog 54 #[] encP 2 cfP blk off size w:=fun m os dk _ x y=>qah x y _
def sortU (l:List Pd):List Pd:=(pdq (ltOf cfP) l.toArray 0 l.toArray.size (Lib.bitLen l.toArray.size) true true).toList
theorem qzx (l:List Pd):(sortU l).Perm l∧(sortU l).length=l.length∧SortedF (sortU l):=by
 obtain ⟨⟨h1,h2,h3⟩,h4⟩:=pdq_sorts (ltOf cfP) q8x l.toArray 0 l.toArray.size (Lib.bitLen l.toArray.size) true true (Nat.zero_le _) (Nat.le_refl _) (Or.inl rfl)
 unfold sortU
 generalize pdq (ltOf cfP) l.toArray 0 l.toArray.size (Lib.bitLen l.toArray.size) true true=d at *
 have hs:d.size=l.length:=by simpa using h1
 have hp:d.toList.Perm l:=by
  have e1:(d.extract 0 l.toArray.size).toList=d.toList:=by
   rw [Array.toList_extract];simp [hs,List.extract];exact List.take_of_length_le (by simp [hs])
  have e2:(l.toArray.extract 0 l.toArray.size).toList=l:=by rw [Array.toList_extract];simp [List.extract]
  rw [e1,e2] at h3;exact h3
 refine ⟨hp,by simp [hs],?_⟩
 have key:∀ (l':List Pd),(∀ i j (hi:i<j) (hj:j<l'.length),l'[i].From≤l'[j].From)→SortedF l':=by
  intro l'
  induction l' with
  |nil=>intro _;trivial
  |cons x l' ih =>
   intro h
   refine ⟨fun q hq=>?_,ih fun i j hi hj=>?_⟩
   ·obtain ⟨j,hj,rfl⟩:=List.getElem_of_mem hq
    exact h 0 (j+1) (by omega) (by simpa using hj)
   ·exact h (i+1) (j+1) (by omega) (by simpa using hj)
 refine key _ fun i j hi hj=>?_
 have hj':j<d.size:=by simpa using hj
 have:=h4 i j (Nat.zero_le _) hi (by simpa [hs] using hj')
 rw [qpu,getElem!_pos d j hj',getElem!_pos d i (by omega)] at this
 simp at this
 simpa using this
theorem qdn (d:Array Pd) {i:Nat} (hi:i<d.size) {j:Nat} (hj:j<2):(flatK encP 2 d)[i*2+j]! = (encP d[i]!)[j]!:=by
 rw [get_flatK _ _ _ _ (by omega)]
 have e1:(i*2+j) / 2=i:=by omega
 have e2:(i*2+j) % 2=j:=by omega
 rw [e1,e2]
theorem RowP.holds {w:World} {g n c:Nat} {l:List Pd} (h:RowP w g n c l):HoldsK encP 2 w g 0 l.toArray:=by
 obtain ⟨⟨t,fz,cur,hv,hs,hf,hc⟩,hl,hle,hm,hp⟩:=h
 intro j hj
 simp only [size_flatK] at hj
 have hj':j<l.length*2:=by simpa using hj
 have hi:j / 2<l.length:=by omega
 obtain ⟨c1,c2⟩:=hc (j / 2) l[j / 2] (List.getElem?_eq_getElem hi)
 have he:l.toArray[j / 2]! = l[j / 2]:=by rw [getElem!_pos l.toArray (j / 2) (by simpa using hi)];simp
 have hfz:w.frozen? ⟨g,0+j,none⟩=false:=by
  subst hf
  simp [World.frozen?,hv]
 refine ⟨?_,hfz⟩
 have e:j=(j / 2)*2+j % 2:=by omega
 have hm2:j % 2<2:=Nat.mod_lt _ (by decide)
 rw [show (flatK encP 2 l.toArray)[j]! = (flatK encP 2 l.toArray)[(j / 2)*2+j % 2]! from by rw [←e],qdn _ (by simpa using hi) hm2,he]
 simp only [World.cell?,hv,Nat.zero_add,id]
 rcases (show j % 2=0∨j % 2=1 by omega) with h0|h0
 ·rw [h0];rw [h0] at e;rw [Nat.add_zero] at e;rw [←e] at c1;simpa [encP] using c1
 ·rw [h0];rw [h0] at e;rw [←e] at c2;simpa [encP] using c2
theorem RowP.sorted {W w:World} {g n c:Nat} {l:List Pd} (h:RowP w g n c l) (hb:Bel W w) (hg:W.heap.size≤g) (d:Array Pd) (hd:d.size=l.length) (m:Nat) (os:Array Obj):Bel W (sortWorldK encP 2 w g 0 m d os)∧RowP (sortWorldK encP 2 w g 0 m d os) g n c d.toList:=by
 obtain ⟨⟨t,fz,cur,hv,hs,hf,hc⟩,hl,hle,hm,hp⟩:=h
 have hlt:=qk9 hv
 have hsz:(putRow id (Sort.ahead w m) g 0 (flatK encP 2 d)).heap.size=w.heap.size:=by rw [size_putRow];rfl
 have hat:∀ k,k<w.heap.size→(sortWorldK encP 2 w g 0 m d os).heap[k]?=if k=g then some (.cells (putCells id 0 (flatK encP 2 d) cur) t fz) else w.heap[k]?:=by
  intro k hk
  show ((putRow id (Sort.ahead w m) g 0 (flatK encP 2 d)).heap++os)[k]?=_
  rw [Array.getElem?_append_left (by rw [hsz];exact hk)]
  show (w.heap.modify g _)[k]?=_
  rw [Array.getElem?_modify]
  by_cases e:g=k
  ·subst e
   simp only [if_true,hv,Option.map_some,onCells]
  ·rw [if_neg e,if_neg (Ne.symm e)]
 refine ⟨⟨hb.os,hb.tape,hb.output,?_,fun k hk=>?_⟩,⟨t,fz,putCells id 0 (flatK encP 2 d) cur,by rw [hat g hlt,if_pos rfl],by simp [putCells,hs],hf,fun i x hx=>?_⟩,by rw [←hl,←hd];simp,hle,hm,hp⟩
 ·show W.heap.size≤((putRow id (Sort.ahead w m) g 0 (flatK encP 2 d)).heap++os).size
  rw [Array.size_append,hsz]
  have:=hb.size
  omega
 ·have:=hb.size
  rw [hat k (by omega),if_neg (by omega)]
  exact hb.block k hk
 ·have hi:i<d.size:=by have:=(List.getElem?_eq_some_iff.1 hx).1;simpa using this
  have hx':d[i]! = x:=by
   rw [getElem!_pos d i hi]
   rw [List.getElem?_eq_getElem (by simpa using hi)] at hx
   injection hx with hx
  have one:∀ j,j<2→(putCells id 0 (flatK encP 2 d) cur)[i*2+j]?=some (encP x)[j]!:=fun j hj=>by
   have hq:i*2+j<cur.size:=by omega
   unfold putCells
   rw [Array.getElem?_mapIdx,Array.getElem?_eq_getElem hq]
   simp only [Option.map_some,size_flatK,Nat.zero_le,true_and,Nat.zero_add,Nat.sub_zero,id]
   rw [if_pos (by omega),qdn d hi hj,hx']
  exact ⟨by simpa [encP] using one 0 (by decide),by simpa [encP] using one 1 (by decide)⟩
theorem qzy {W w:World} {g n c:Nat} {l:List Pd} (hb:Bel W w) (hg:W.heap.size≤g) (h:RowP w g n c l) (hn:n<4611686018427387904) :
  Calls Tryz.prog 53 #[.slice (some ⟨g,0,none⟩) n c,.func (.func 54) #[] #[]] w fun e w'=>e=.returned (.tuple #[])∧Bel W w'∧RowP w' g n c (sortU l):=by
 obtain ⟨⟨t,fz,cur,hv,_⟩,hl,_⟩:=id h
 have hcon:=AnyQ.slices_SortFunc_eq sortP 2 Tryz.isAgg24 Tryz.sizeOf24 encP (fun _=>rfl) (fun x v hv=>by simp [encP] at hv;rcases hv with rfl|rfl <;> rfl) cfP q8x 54 #[] g 0 c l.toArray w (enters_of Tryz.func54 (by kernel_rfl) rfl) (qai g 0 _ w) h.holds (qk9 hv) (by simp;omega)
 change Calls Tryz.prog 53 _ _ _ at hcon
 have e:l.toArray.size=n:=by simpa using hl
 rw [e] at hcon
 have hs:=(qzx l).2.1
 have hu:sortU l=(pdq (ltOf cfP) l.toArray 0 n (Lib.bitLen n) true true).toList:=by unfold sortU;rw [e]
 rw [hu] at hs ⊢
 generalize pdq (ltOf cfP) l.toArray 0 n (Lib.bitLen n) true true=d at *
 refine hcon.mono ?_
 rintro e w' ⟨rfl,m,os,rfl⟩
 obtain ⟨h1,h2⟩:=h.sorted hb hg d (by simpa using hs) m os
 exact ⟨rfl,h1,h2⟩
end Go.Proofs.YtfakibajjibjjaaGreatDoor
namespace Go.Proofs.YtfakibajjibjjaaGreatDoor
set_option linter.unusedSimpArgs false
open Go.RowKit
def Hold (W w:World) (v:Value) (l:List Pd):Prop :=
 (l=[]∧∃ A c,v=.slice A 0 c∧c≤maxLen∧(A=none→c=0))∨∃ g n c,v=.slice (some ⟨g,0,none⟩) n c∧W.heap.size≤g∧RowP w g n c l
theorem qc9 {W w:World} (hG:GW W) (hb:Bel W w) {A:Option Addr} {c:Nat} (hc:c≤maxLen) (hA:A=none→c=0) :
  Calls Tryz.prog 50 #[.slice A 0 c,.func (.func 52) #[] #[]] w fun e w'=>e=.returned (.slice A 0 c)∧Bel W w':=by
 have hi:Calls Tryz.prog 95 #[.slice A 0 c,.func (.func 52) #[] #[]] w fun e w'=>e=.returned (.int .i64 (-1))∧Bel w w':=by
  have ok:=qj Tryz.prog lv X0 qsi X0_ok (qf3 (q143 [] (by simp)))
  refine (ok.2.2 w Z0 Z0 _ (gw_bel hG hb) (fun _ _ _ h=>by cases h) (fun _ _ _ h=>by cases h) rfl ?_).mono fun e w'=>?_
  ·intro i u x hu hx
   match i with
   |0=>simp at hu;subst hu;injection hx with hx;subst hx;exact .c (.sl A 0 c 2 0 0 (fun _=>.nilFunc) [] rfl (by simp) hc (by simp) (by simp) (by simp) (by simp) hA)
   |1=>simp at hu;subst hu;injection hx with hx;subst hx;exact q5a
   |i+2=>simp at hu
  ·rintro ⟨cv,Z',m',rfl,_,R,r,_⟩
   cases r with
   |c r =>
   cases r
   exact ⟨rfl,q153.1 R.bel⟩
 go_enter Tryz.func50,Tryz.ntmps50
 go_wp2_with (go_at_call 95;refine hi.mono ?_;rintro e w' ⟨rfl,hb'⟩)
 go_ret
 exact ⟨rfl,hb.trans hb'⟩
theorem qca {W w:World} (hG:GW W) (hb:Bel W w) {v:Value} {l:List Pd} (h:Hold W w v l) :
  Calls Tryz.prog 50 #[v,.func (.func 52) #[] #[]] w fun e w'=>∃ v',e=.returned v'∧Bel W w'∧Hold W w' v' (l.filter fun p=>!badP p):=by
 rcases h with ⟨rfl,A,c,rfl,hc,hA⟩|⟨g,n,c,rfl,hg,h⟩
 ·exact (qc9 hG hb hc hA).mono fun e w' ⟨he,hb'⟩=>⟨_,he,hb',.inl ⟨rfl,A,c,rfl,hc,hA⟩⟩
 ·refine (qc8 hG hb hg h).mono ?_
  rintro e w' ⟨g',c',rfl,hb',hg',hle,hm,hr⟩
  refine ⟨_,rfl,hb',?_⟩
  by_cases h0:0<(l.filter fun p=>!badP p).length
  ·exact .inr ⟨g',_,c',rfl,hg',hr h0⟩
  ·have e0:l.filter (fun p=>!badP p)=[]:=List.eq_nil_of_length_eq_zero (by omega)
   refine .inl ⟨e0,_,c',by rw [e0];rfl,hm,by simp⟩
theorem qzz {W w:World} (hb:Bel W w) {v:Value} {l:List Pd} (h:Hold W w v l) (hn:l.length<4611686018427387904) :
  Calls Tryz.prog 53 #[v,.func (.func 54) #[] #[]] w fun e w'=>e=.returned (.tuple #[])∧Bel W w'∧Hold W w' v (sortU l):=by
 rcases h with ⟨rfl,A,c,rfl,hc,hA⟩|⟨g,n,c,rfl,hg,h⟩
 ·refine (AnyF.slices_SortFunc_none sortP A c (.func (.func 54) #[] #[]) w).mono ?_
  rintro e w' ⟨rfl,rfl⟩
  have:sortU []=[]:=List.eq_nil_of_length_eq_zero (by rw [(qzx []).2.1];rfl)
  exact ⟨rfl,hb,.inl ⟨this,A,c,rfl,hc,hA⟩⟩
 ·have hl:=h.2.1
  exact (qzy hb hg h (by omega)).mono fun e w' ⟨he,hb',hr⟩=>⟨he,hb',.inr ⟨g,n,c,rfl,hg,hr⟩⟩
def unionU (l:List Pd):List Pd:=mergeU [] (sortU (l.filter fun p=>!badP p))
theorem q149 (n:Nat) (l:List Pd) (i j:Int) (b:List Pd):canon (headOf lv 18 (qix (cdF Tryz.f18) 5)) (headS lv 18 (qix (cdF Tryz.f18) 5) (q14g.c.enc ((n,l,i,j),b)).st)=(q14g.c.enc ((n,l,i,j),b)).st:=by
 have h:canK (headOf lv 18 (qix (cdF Tryz.f18) 5)) (headS lv 18 (qix (cdF Tryz.f18) 5) (q14g.c.enc ((n,l,i,j),b)).st) (fun ls=>some ls)=some (q14g.c.enc ((n,l,i,j),b)):=by kernel_rfl
 obtain ⟨ls,h1,h2⟩:=q89 h
 rw [h1,Option.some.inj h2]
theorem q9z {W:World} (hG:GW W) {Z Y:ZMap} (hZ:∀ b o u,Z b o=some u→W.cell? ⟨b,o,none⟩=some u) (hY:∀ b o u,Y b o=some u→W.cell? ⟨b,o,none⟩=some u) {u:Value} {l:List Pd} (hl:l.length≤1000000) (hr:RepC Z u (.sl (qde.encL l))) :
  Calls Tryz.prog 51 #[u] W fun e w'=>∃ v,e=.returned v∧Bel W w'∧Hold W w' v l:=by
 have ok:=qj Tryz.prog lv X0 qsi X0_ok (qf3 (q13h l (by omega)))
 refine (ok.2.2 W Z Y _ hG hZ hY rfl ?_).mono fun e w'=>?_
 ·intro i x y hx hy
  match i with
  |0=>simp at hx;subst hx;injection hy with hy;subst hy;exact .c hr
  |i+1=>simp at hx
 ·rintro ⟨cv,Z',m',rfl,_,R,r,_⟩
  refine ⟨cv,rfl,q153.1 R.bel,?_⟩
  have hrow:=R.row 0 (qde.encL l) rfl
  have r':Rep Z' (fun _ _=>none) m' cv (.row 0 l.length):=r
  obtain ⟨ln,hln⟩:∃ ln,l.length=ln:=⟨_,rfl⟩
  rw [hln] at r'
  cases r' with
  |row _ _ A c hm hA =>
   rcases hrow with ⟨h0,h1⟩|⟨g,n,c1,k,h0,hat⟩
   ·rw [hm] at h0
    injection h0 with h0;injection h0 with a1 a2 a3
    subst a1 a3
    have:l=[]:=List.eq_nil_of_length_eq_zero (hln.trans a2)
    subst this
    subst a2
    exact .inl ⟨rfl,none,0,rfl,by simp,fun _=>rfl⟩
   ·rw [hm] at h0
    injection h0 with h0;injection h0 with a1 a2 a3
    subst a1 a2 a3
    subst hln
    have hmx:=hat.max
    by_cases hl0:l=[]
    ·subst hl0
     exact .inl ⟨rfl,_,c,rfl,hmx,by simp⟩
    ·have hk2:k=2:=by
      obtain ⟨x,xs,rfl⟩:=List.exists_cons_of_ne_nil hl0
      exact (hat.each _ (List.mem_map_of_mem (List.mem_cons_self ..))).symm
     subst hk2
     obtain ⟨t,fz,cur,hv,hcs,hfz,hcell⟩:=hat.ex
     have hpos:0<l.length:=List.length_pos_iff.2 hl0
     refine .inr ⟨g,l.length,c,rfl,q154.1 hat.base,⟨t,fz,cur,hv,hcs,hfz.2.1 (by decide),fun q x hx=>?_⟩,rfl,hat.le,hmx,hpos⟩
     have he:(qde.encL l)[q]?=some [.int .i64 x.From,.int .i64 x.To]:=by rw [EC.encL,List.getElem?_map,hx];rfl
     obtain ⟨u0,a0,b0⟩:=hcell q _ 0 _ he rfl
     obtain ⟨u1,a1,b1⟩:=hcell q _ 1 _ he rfl
     cases b0;cases b1
     exact ⟨a0,a1⟩
  |row0 _ A hm =>
   have hl0:l=[]:=by
    rcases hrow with ⟨h0,h1⟩|⟨g,n,c1,k,h0,hat⟩
    ·exact List.map_eq_nil_iff.1 h1
    ·rw [hm] at h0;cases h0
   subst hl0
   exact .inl ⟨rfl,A,0,rfl,by simp,fun _=>rfl⟩
end Go.Proofs.YtfakibajjibjjaaGreatDoor
