/- slices.DeleteFunc at replies, as vacation.Reply calls it. -/
import Derived.Test.YtmacbkjehjbjeaaGreatDoorGB
import Derived.LoopTactic
import Derived.Deep.QuietTactic
import Derived.BigQuiet
namespace Go.Proofs.YtmacbkjehjbjeaaGreatDoor
open Go.RowKit
set_option maxRecDepth 100000
abbrev Rp:=ByteArray×Int
def encR (x:Rp):List C:=[.str x.1,.int .i64 x.2]
def isOld (now:Int) (x:Rp):Bool:=decide (604800≤IntKind.i64.wrap (now - x.2))
def valR (x:Rp):Value:=.agg #[.string x.1,.int .i64 x.2]
theorem qog:∀ (es:List (List C)),es.all repB=true→∃ l:List Rp,es=l.map encR
 |[],_=>⟨[],rfl⟩
 |e::es,h=>by
  rw [List.all_cons,Bool.and_eq_true] at h
  obtain ⟨l,rfl⟩:=qog es h.2
  have h1:=h.1
  unfold repB at h1
  split at h1
  ·rename_i s n;exact ⟨(s,n)::l,rfl⟩
  ·cases h1
theorem qcg (now:Int) (l:List Rp):((l.map encR).filter (newB now))=(l.filter fun x=>!isOld now x).map encR:=by
 rw [List.filter_map]
 rfl
structure RowR (w:World) (g c:Nat) (l:List Rp):Prop where
 ex:∃ t fz cur,w.heap[g]?=some (.cells cur t fz)∧cur.size=c*2∧fz=(0,0)∧∀ (i:Nat) (x:Rp),l[i]?=some x→cur[i*2]?=some (.string x.1)∧cur[i*2+1]?=some (.int .i64 x.2)
 le:l.length≤c
 max:c≤maxLen
theorem RowR.cell {w:World} {g c:Nat} {l:List Rp} (h:RowR w g c l) {i:Nat} (hi:i<l.length):w.cell? ⟨g,i*2,none⟩=some (.string l[i].1)∧w.cell? ⟨g,i*2+1,none⟩=some (.int .i64 l[i].2):=by
 obtain ⟨t,fz,cur,hv,hs,hf,hc⟩:=h.ex
 obtain ⟨h1,h2⟩:=hc i _ (List.getElem?_eq_getElem hi)
 constructor
 ·simp only [World.cell?,hv];exact h1
 ·simp only [World.cell?,hv];exact h2
theorem RowR.free {w:World} {g c:Nat} {l:List Rp} (h:RowR w g c l) (o:Nat) (_ho:o<c*2):w.frozen? ⟨g,o,none⟩=false:=by
 obtain ⟨t,fz,cur,hv,hs,rfl,hc⟩:=h.ex
 simp only [World.frozen?,hv]
 simp
theorem RowR.same {w w':World} {g c:Nat} {l:List Rp} (h:RowR w g c l) (hb:w'.heap[g]?=w.heap[g]?):RowR w' g c l:=by
 obtain ⟨⟨t,fz,cur,hv,hr⟩,h1,h2⟩:=h
 exact ⟨⟨t,fz,cur,hb.trans hv,hr⟩,h1,h2⟩
theorem RowR.lt {w:World} {g c:Nat} {l:List Rp} (h:RowR w g c l):g<w.heap.size:=by
 obtain ⟨⟨t,fz,cur,hv,hr⟩,h1,h2⟩:=h
 exact qi0 hv
theorem qn3 (x:Rp) (now:Int) (w:World):Calls Tryz.prog 12 #[valR x,.int .i64 now] w fun e w'=>e=.returned (.bool (isOld now x))∧Below w.heap.size w w':=by
 unfold isOld valR
 go_enter Tryz.func12,Tryz.ntmps12
 go_wp2
 go_ret
 refine ⟨?_,(Below.refl _ w).alloc (Nat.le_refl _) _⟩
 have e:IntKind.i64.wrap (now - x.2)=wrap64 (now - x.2):=by rw [IntKind.wrap_i64];unfold wrap64;omega
 rw [e]
 rfl
theorem qx2 (x:Rp) (q:Nat) (now:Int) (w:World) (hq:w.cell? ⟨q,0,none⟩=some (.int .i64 now)):Calls Tryz.prog 19 #[valR x,.pointer (some ⟨q,0,none⟩)] w fun e w'=>e=.returned (.bool (isOld now x))∧Below w.heap.size w w':=by
 have hlt:=q7s hq
 go_enter Tryz.func19,Tryz.ntmps19
 unfold valR
 go_wp2_with (go_at_call 12;refine (qn3 x now _).mono ?_;rintro e w' ⟨rfl,hb⟩)
 go_ret
 refine ⟨rfl,?_⟩
 exact ((Below.refl _ w).alloc (Nat.le_refl _) _).trans (hb.mono (by show w.heap.size≤(w.heap.push _).size;rw [Array.size_push];omega))
def vI:Value→Int
 |.int _ n=>n
 |_=>0
def idxO (now:Int):Nat→List Rp→Int
 |_,[]=>-1
 |i,x::l=>if isOld now x=true then (i:Int) else idxO now (i+1) l
theorem q9f {α:Type} {l:List α} {k:Nat} (h:k<l.length):l.drop k=l[k]::l.drop (k+1):=List.drop_eq_getElem_cons h
set_option maxHeartbeats 1600000 in
theorem qim (now:Int) (q g c:Nat) (l:List Rp) (w:World) (h:RowR w g c l) (hq:w.cell? ⟨q,0,none⟩=some (.int .i64 now)) :
  Calls Tryz.prog 41 #[.slice (some ⟨g,0,none⟩) l.length c,.func (.func 19) #[] #[.pointer (some ⟨q,0,none⟩)]] w fun e w'=>e=.returned (.int .i64 (idxO now 0 l))∧Below w.heap.size w w':=by
 have hmx:l.length≤9223372036854775807:=by have:=h.le;have:=h.max;unfold maxLen at *;omega
 have hg:=h.lt
 have hql:=q7s hq
 go_enter Tryz.func41,Tryz.ntmps41
 go_wp2
 go_loopw [8] (fun u8 wr=>∃ k:Nat,u8=.int .i64 k∧k≤l.length∧idxO now 0 l=idxO now k (l.drop k)∧Below w.heap.size w wr) (fun u8 _=>l.length - (vI u8).toNat)
 case atStart=>exact ⟨0,rfl,by omega,by simp,Below.refl _ _⟩
 case round =>
  obtain ⟨k,rfl,hk,he,hb⟩:=hrel
  by_cases h1:k=l.length
  ·subst h1
   rw [List.drop_eq_nil_of_le (Nat.le_refl _)] at he
   have he:idxO now 0 l=-1:=he
   go_wp2
   go_ret
   exact ⟨by rw [he];rfl,hb⟩
  have hlt:k<l.length:=by omega
  have hr:=h.same (hb.block g hg)
  obtain ⟨c1,c2⟩:=hr.cell hlt
  have hq':wr.cell? ⟨q,0,none⟩=some (.int .i64 now):=(hb.cell (p:=⟨q,0,none⟩) hql).trans hq
  rw [q9f hlt] at he
  have hi1:(0:Int)≤(k:Int)∧(k:Int)<(l.length:Int):=by omega
  cases ho:isOld now l[k] with
  |true =>
   have he2:idxO now 0 l=(k:Int):=by rw [he];simp only [idxO,ho,if_true]
   go_wp2_with (go_at_call 19;refine (qx2 l[k] q now _ hq').mono ?_;rintro e w' ⟨rfl,hb2⟩;rw [ho])
   go_ret
   exact ⟨by rw [he2];rfl,hb.trans (hb2.mono hb.size)⟩
  |false =>
   have he2:idxO now 0 l=idxO now (k+1) (l.drop (k+1)):=by rw [he];simp only [idxO,ho,Bool.false_eq_true,if_false]
   go_wp2_with (go_at_call 19;refine (qx2 l[k] q now _ hq').mono ?_;rintro e w' ⟨rfl,hb2⟩;rw [ho])
   refine ⟨⟨k+1,rfl,by omega,he2,hb.trans (hb2.mono hb.size)⟩,by simp [vI];omega⟩
theorem qi6 (now:Int):∀ (l:List Rp) (k:Nat),(idxO now k l=-1∧∀ x∈l,isOld now x=false)∨∃ i,∃ hi:i<l.length,idxO now k l=((k+i:Nat):Int)∧isOld now l[i]=true∧∀ x∈l.take i,isOld now x=false
 |[],_=>.inl ⟨rfl,by simp⟩
 |x::l,k=>by
  cases ho:isOld now x with
  |true=>exact .inr ⟨0,by simp,by simp [idxO,ho],by simpa using ho,by simp⟩
  |false =>
   have e:idxO now k (x::l)=idxO now (k+1) l:=by simp [idxO,ho]
   rw [e]
   rcases qi6 now l (k+1) with ⟨h1,h2⟩|⟨i,hi,h1,h2,h3⟩
   ·refine .inl ⟨h1,fun y hy=>?_⟩
    rcases List.mem_cons.1 hy with rfl|hy
    ·exact ho
    ·exact h2 y hy
   ·refine .inr ⟨i+1,by simp;omega,by rw [h1];congr 1;omega,by simpa using h2,fun y hy=>?_⟩
    rw [List.take_succ_cons] at hy
    rcases List.mem_cons.1 hy with rfl|hy
    ·exact ho
    ·exact h3 y hy
theorem RowR.set {w:World} {g c:Nat} {l:List Rp} (h:RowR w g c l) {i:Nat} (hi:i<l.length) (x:Rp):RowR ((w.setCell ⟨g,i*2,none⟩ (.string x.1)).setCell ⟨g,i*2+1,none⟩ (.int .i64 x.2)) g c (l.set i x):=by
 obtain ⟨⟨t,fz,cur,hv,hs,hf,hc⟩,h1,h2⟩:=h
 have hb:((w.setCell ⟨g,i*2,none⟩ (.string x.1)).setCell ⟨g,i*2+1,none⟩ (.int .i64 x.2)).heap[g]?=some (.cells ((cur.setIfInBounds (i*2) (.string x.1)).setIfInBounds (i*2+1) (.int .i64 x.2)) t fz):=by
  simp [World.setCell,Array.getElem?_modify,hv]
 refine ⟨⟨t,fz,_,hb,by simp [hs],hf,fun j y hy=>?_⟩,by simpa using h1,h2⟩
 rw [List.getElem?_set] at hy
 by_cases hj:i=j
 ·subst hj
  rw [if_pos rfl,if_pos hi] at hy
  injection hy with hy
  subst hy
  constructor
  ·rw [Array.getElem?_setIfInBounds_ne (by omega),Array.getElem?_setIfInBounds_self_of_lt (by omega)]
  ·rw [Array.getElem?_setIfInBounds_self_of_lt (by rw [Array.size_setIfInBounds];omega)]
 ·rw [if_neg hj] at hy
  obtain ⟨c1,c2⟩:=hc j y hy
  constructor
  ·rw [Array.getElem?_setIfInBounds_ne (by omega),Array.getElem?_setIfInBounds_ne (by omega)];exact c1
  ·rw [Array.getElem?_setIfInBounds_ne (by omega),Array.getElem?_setIfInBounds_ne (by omega)];exact c2
def zR:Rp:=(⟨#[]⟩,0)
theorem wr_frm {g:Nat} {w w':World} (h:Wr g w w'):Frm (fun k=>k=g) w w':=⟨h.os,h.tape,h.output,by rw [h.size];exact Nat.le_refl _,fun k _ hk=>h.block k hk⟩
theorem q7x {w:World} {g c:Nat} {l:List Rp} (h:RowR w g c l) {i:Nat} (hi:i≤l.length) :
  ∃ w',(∀ ty cap,(Builtin.clear_ #[31] ty #[.slice (some ⟨g,i*2,none⟩) (l.length - i) cap]).run Tryz.prog w=.ok (.tuple #[]) w')∧Frm (fun k=>k=g) w w'∧RowR w' g c (l.take i++List.replicate (l.length - i) zR):=by
 obtain ⟨⟨t,fz,cur,hv,hs,hf,hc⟩,hle,hmx⟩:=id h
 have hz:∀ w,(zeroValue 44).run Tryz.prog w=.ok (.agg #[.string ⟨#[]⟩,.int .i64 0]) w:=fun w=>by simp only [zeroValue,Sem.run_bind,Tryz.typeInfo44,Result.andThen_ok];rfl
 by_cases h0:l.length - i=0
 ·refine ⟨w,fun ty cap=>?_,⟨rfl,rfl,rfl,Nat.le_refl _,fun _ _ _=>rfl⟩,?_⟩
  ·rw [h0]
   simp [Builtin.clear_,run_underlying Tryz.underlying31]
  ·rw [h0,List.take_of_length_le (by omega)]
   simpa using h
 ·have hlen:(Builtin.zeroCells (Value.agg #[.string ⟨#[]⟩,.int .i64 0]).cells (l.length - i)).toList.length=(l.length - i)*2:=by simp [Builtin.zeroCells,Value.cells]
  have hat:∀ q,q<(l.length - i)*2→(Builtin.zeroCells (Value.agg #[.string ⟨#[]⟩,.int .i64 0]).cells (l.length - i)).toList[q]?=some (if q % 2=0 then .string ⟨#[]⟩ else .int .i64 0):=fun q hq=>by
   simp only [Builtin.zeroCells,Value.cells,Array.toList_map,List.getElem?_map,Array.toList_range]
   rw [List.getElem?_range (by simpa using hq)]
   have:q % 2=0∨q % 2=1:=by omega
   rcases this with e|e <;> simp [e]
  obtain ⟨w',r1,r2,r3⟩:=qpq (P:=Tryz.prog) (o:=i*2) (Builtin.zeroCells (Value.agg #[.string ⟨#[]⟩,.int .i64 0]).cells (l.length - i)).toList 0 w cur hv (fun u hu=>by
   simp only [Builtin.zeroCells,Value.cells,Array.toList_map,List.mem_map] at hu
   obtain ⟨q,_,rfl⟩:=hu
   have:q % 2=0∨q % 2=1:=by omega
   rcases this with e|e <;> simp [e] <;> rfl) (by rw [hlen,hs];omega) (by subst hf;simp)
  obtain ⟨f1,f2⟩:=qdw (i*2) (Builtin.zeroCells (Value.agg #[.string ⟨#[]⟩,.int .i64 0]).cells (l.length - i)).toList 0 cur
  refine ⟨w',fun ty cap=>?_,wr_frm r2,⟨⟨t,fz,_,r3,by rw [f1,hs],hf,fun j y hy=>?_⟩,by simp;omega,hmx⟩⟩
  ·obtain ⟨m,hm⟩:∃ m,l.length - i=m+1:=⟨l.length - i - 1,by omega⟩
   rw [hm] at r1 ⊢
   simp [Builtin.clear_,run_underlying Tryz.underlying31,hz,r1]
  ·have hjl:j<l.length:=by
    have:=(List.getElem?_eq_some_iff.1 hy).1
    simp at this
    omega
   by_cases hj:j<i
   ·rw [List.getElem?_append_left (by simp;omega),List.getElem?_take,if_pos hj] at hy
    obtain ⟨c1,c2⟩:=hc j y hy
    rw [f2 _ (by omega),f2 _ (by omega),if_neg (by omega),if_neg (by omega)]
    exact ⟨c1,c2⟩
   ·rw [List.getElem?_append_right (by simp;omega),List.getElem?_replicate] at hy
    split at hy
    case isFalse=>cases hy
    injection hy with hy
    subst hy
    rw [f2 _ (by omega),f2 _ (by omega),if_pos (by rw [hlen];omega),if_pos (by rw [hlen];omega),hat _ (by omega),hat _ (by omega)]
    have e1:(j*2 - (i*2+0)) % 2=0:=by omega
    have e2:¬ (j*2+1 - (i*2+0)) % 2=0:=by omega
    rw [if_pos e1,if_neg e2]
    exact ⟨rfl,rfl⟩
theorem qfi {S:Nat→Prop} {a b c:World} (h:Frm S a b) (h':Frm S b c):Frm S a c:=Frm.trans h h' (fun _ h _=>h)
theorem qfg {S:Nat→Prop} {a b:World} (h:Below a.heap.size a b):Frm S a b:=⟨h.os,h.tape,h.output,h.size,fun k hk _=>h.block k hk⟩
theorem qfh (S:Nat→Prop) (w:World) (b o:Nat) (v:Value) (h:S b):Frm S w (w.setCell ⟨b,o,none⟩ v) :=
 ⟨rfl,by simp,rfl,by simp,fun k _ hk=>Below.heap_setCell _ _ _ _ (fun e=>hk (by rw [e];exact h))⟩
theorem qff (S:Nat→Prop) (w:World) (X:Obj):Frm S w (w.alloc X) :=
 ⟨rfl,by simp,rfl,by simp,fun k hk _=>Below.heap_alloc w X k hk⟩
def keep (now:Int) (x:Rp):Bool:=!isOld now x
set_option maxHeartbeats 4000000 in
theorem q92 (now:Int) (q g c:Nat) (l:List Rp) (w:World) (h:RowR w g c l) (hq:w.cell? ⟨q,0,none⟩=some (.int .i64 now)) (hgq:q≠g) :
  Calls Tryz.prog 18 #[.slice (some ⟨g,0,none⟩) l.length c,.func (.func 19) #[] #[.pointer (some ⟨q,0,none⟩)]] w fun e w'=>e=.returned (.slice (some ⟨g,0,none⟩) (l.filter (keep now)).length c)∧RowR w' g c (l.filter (keep now)++List.replicate (l.length - (l.filter (keep now)).length) zR)∧Frm (fun k=>k=g) w w':=by
 have hmx:l.length≤9223372036854775807:=by have:=h.le;have:=h.max;unfold maxLen at *;omega
 have hg:=h.lt
 have hql:=q7s hq
 have hlc:=h.le
 rcases qi6 now l 0 with ⟨h1,h2⟩|⟨i0,hi0,h1,h2,h3⟩
 ·have hF:l.filter (keep now)=l:=List.filter_eq_self.2 fun x hx=>by unfold keep;rw [h2 x hx];rfl
  have hi:=qim now q g c l w h hq
  rw [h1] at hi
  go_enter Tryz.func18,Tryz.ntmps18
  go_wp2_with (go_at_call 41;refine hi.mono ?_;rintro e w' ⟨rfl,hb⟩)
  go_ret
  rw [hF,Nat.sub_self]
  exact ⟨rfl,by simpa using h.same (hb.block g hg),qfg hb⟩
 ·rw [Nat.zero_add] at h1
  have hi:=qim now q g c l w h hq
  rw [h1] at hi
  have hne:((i0:Int)==-1)=false:=beq_eq_false_iff_ne.2 (by omega)
  have hF0:l.filter (keep now)=l.take i0++(l.drop (i0+1)).filter (keep now):=by
   conv=>lhs;rw [←List.take_append_drop i0 l,List.filter_append,q9f hi0,List.filter_cons]
   have:keep now l[i0]=false:=by unfold keep;rw [h2];rfl
   rw [this]
   simp only [Bool.false_eq_true,if_false]
   congr 1
   exact List.filter_eq_self.2 fun x hx=>by unfold keep;rw [h3 x hx];rfl
  generalize hF:l.filter (keep now)=F at *
  go_enter Tryz.func18,Tryz.ntmps18
  go_wp2_with (go_at_call 41;refine hi.mono ?_;rintro e w1 ⟨rfl,hb⟩)
  have hr1:RowR w1 g c l:=h.same (hb.block g hg)
  have hF1:Frm (fun k=>k=g) w w1:=qfg hb
  go_loopw [5,6] (fun u5 u6 wr=>∃ (i j:Nat) (b:List Rp),u5=.int .i64 i∧u6=.int .i64 j∧i<j∧j≤l.length∧b.length=l.length∧RowR wr g c b∧b.take i++(b.drop j).filter (keep now)=F∧Frm (fun k=>k=g) w wr) (fun _ u6 _=>l.length - (vI u6).toNat)
  case atStart=>exact ⟨i0,i0+1,l,rfl,rfl,by omega,by omega,rfl,hr1,hF0.symm,hF1⟩
  case round =>
   obtain ⟨i,j,b,rfl,rfl,hij,hj,hbl,hrb,hbF,hFr⟩:=hrel
   by_cases h5:j=l.length
   ·subst h5
    rw [List.drop_eq_nil_of_le (by omega),List.filter_nil,List.append_nil] at hbF
    have hFl:F.length=i:=by rw [←hbF,List.length_take];omega
    obtain ⟨w3,hrun,hFc,hrc⟩:=q7x hrb (i:=i) (by omega)
    rw [hbl] at hrun hrc
    have hic:(0:Int)≤(i:Int)∧(i:Int)≤(l.length:Int):=by omega
    go_wp2
    go_ret
    rw [hbF] at hrc
    refine ⟨by rw [hFl];rfl,by rw [hFl];exact hrc,qfi hFr hFc⟩
   have hlt:j<b.length:=by omega
   have hli:i<b.length:=by omega
   obtain ⟨c1,c2⟩:=hrb.cell hlt
   obtain ⟨d1,d2⟩:=hrb.cell hli
   have f1:=hrb.free (i*2) (by have:=hrb.le;omega)
   have f2:=hrb.free (i*2+1) (by have:=hrb.le;omega)
   have hq':wr.cell? ⟨q,0,none⟩=some (.int .i64 now):=(hFr.cell 0 hql hgq).trans hq
   have hqr:=q7s hq'
   have hgr:=hrb.lt
   have hj1:(0:Int)≤(j:Int)∧(j:Int)<(l.length:Int):=by omega
   have hi1:(0:Int)≤(i:Int)∧(i:Int)<(l.length:Int):=by omega
   have hq2:∀ X,(wr.alloc X).cell? ⟨q,0,none⟩=some (.int .i64 now):=fun X=>(World.cell?_alloc_past (w:=wr) X q 0 hqr).trans hq'
   rw [q9f hlt] at hbF
   cases ho:isOld now b[j] with
   |true =>
    have hk:keep now b[j]=false:=by unfold keep;rw [ho];rfl
    rw [List.filter_cons,hk] at hbF
    simp only [Bool.false_eq_true,if_false] at hbF
    go_wp2_with (go_at_call 19;refine (qx2 b[j] q now _ (hq2 _)).mono ?_;rintro e w' ⟨rfl,hb2⟩;rw [ho])
    have hsz:wr.heap.size<(wr.alloc (.cells #[.string b[j].1,.int .i64 b[j].2] 44)).heap.size:=by show _<(wr.heap.push _).size;rw [Array.size_push];omega
    have e1:w'.heap[g]?=wr.heap[g]?:=(hb2.block g (by omega)).trans (Below.heap_alloc wr _ g hgr)
    exact ⟨⟨i,j+1,b,rfl,rfl,by omega,by omega,hbl,hrb.same e1,hbF,qfi hFr (qfi (qff _ wr _) (qfg hb2))⟩,by simp [vI];omega⟩
   |false =>
    have hk:keep now b[j]=true:=by unfold keep;rw [ho];rfl
    rw [List.filter_cons,hk] at hbF
    simp only [if_true] at hbF
    have hsz:wr.heap.size<(wr.alloc (.cells #[.string b[j].1,.int .i64 b[j].2] 44)).heap.size:=by show _<(wr.heap.push _).size;rw [Array.size_push];omega
    go_wp2_with (go_at_call 19;refine (qx2 b[j] q now _ (hq2 _)).mono ?_;rintro e w' ⟨rfl,hb2⟩;rw [ho];have n1:w'.cell? ⟨wr.heap.size,0,none⟩=some (.string b[j].1):=(hb2.cell (p:=⟨wr.heap.size,0,none⟩) hsz).trans (World.cell?_alloc_new wr _ _ 0);have n2:w'.cell? ⟨wr.heap.size,1,none⟩=some (.int .i64 b[j].2):=(hb2.cell (p:=⟨wr.heap.size,1,none⟩) hsz).trans (World.cell?_alloc_new wr _ _ 1);have hr3:=hrb.same ((hb2.block g (by omega)).trans (Below.heap_alloc wr _ g hgr));obtain ⟨d1',d2'⟩:=hr3.cell hli;have f1':=hr3.free (i*2) (by have:=hrb.le;omega);have f2':=hr3.free (i*2+1) (by have:=hrb.le;omega))
    have hr4:=hr3.set hli b[j]
    refine ⟨⟨i+1,j+1,b.set i b[j],rfl,rfl,by omega,by omega,by rw [List.length_set];exact hbl,hr4,?_,qfi hFr (qfi (qff _ wr _) (qfi (qfg hb2) (qfi (qfh _ _ g (i*2) _ rfl) (qfh _ _ g (i*2+1) _ rfl))))⟩,by simp [vI];omega⟩
    rw [←hbF]
    have e1:(b.set i b[j]).drop (j+1)=b.drop (j+1):=by rw [List.drop_set_of_lt (by omega)]
    have e2:(b.set i b[j]).take (i+1)=b.take i++[b[j]]:=by
     rw [List.take_succ_eq_append_getElem (by rw [List.length_set];exact hli),List.take_set_of_le (by omega)]
     simp
    rw [e1,e2,List.append_assoc,List.singleton_append]
end Go.Proofs.YtmacbkjehjbjeaaGreatDoor
