/- recur.instants: the closure that it answers, walked against any yield. -/
import Derived.Test.YtfakibajjibjjaaGreatDoorZB
import Derived.Test.YtfakibajjibjjaaGreatDoorZ24
import Derived.TacticsIn
import Derived.BigFrameIn
import Derived.LoopNIn
import Derived.Sort.LoopGhostIn
import Derived.BigRegionIn
import Derived.Shelf.RegionOpen
import Derived.RangeFuncCalls
namespace Go.Proofs.YtfakibajjibjjaaGreatDoor
open Go.RowKit
set_option maxRecDepth 100000
noncomputable def visit (z:ZT) (s:DT) (r:RT) (b:Int) (k:Nat):Option (Option Int) :=
 (q9l (IntKind.i64.wrap (b+IntKind.i64.wrap ((k:Int)*86400))) 0).bind fun d=>(pFits r s d.1 k).bind fun q=>bif q then (pZinst z d.1).bind fun l=>some l.2.head? else some none
noncomputable def insF (z:ZT) (s:DT) (r:RT) (b:Int):Nat→Nat→Int→Option (List Int)
 |0,_,_=>some []
 |n+1,k,many=>(visit z s r b k).bind fun v=>match v with
  |none=>insF z s r b n (k+1) many
  |some t=>bif r.2.2.2.2.1&&decide (r.2.2.2.1<t) then some [] else
    bif IntKind.i64.wrap (many+1)==r.2.2.1 then some [t] else (insF z s r b n (k+1) (IntKind.i64.wrap (many+1))).map (t::·)
theorem q15e (x:Int):IntKind.i64.wrap x=wrap64 x:=by rw [IntKind.wrap_i64];unfold wrap64;omega
theorem bindE {α β:Type} {x:Option α} {f:α→Option β} {b:β} (h:x.bind f=some b):∃ a,x=some a∧f a=some b:=by
 cases x with
 |none=>cases h
 |some a=>exact ⟨a,rfl,h⟩
def RestT (z:ZT) (s:DT) (r:RT) (b:Int) (n k:Nat) (many:Int) (rest:List Int) (t:Int):Prop :=
 (r.2.2.2.2.1=true∧r.2.2.2.1<t)∧rest=[]∨(r.2.2.2.2.1=true→t≤r.2.2.2.1) ∧
  (wrap64 (many+1)=r.2.2.1∧rest=[t]∨wrap64 (many+1)≠r.2.2.1∧∃ rest',insF z s r b n (k+1) (wrap64 (many+1))=some rest'∧rest=t::rest')
def RestL (z:ZT) (s:DT) (r:RT) (b:Int) (n k:Nat) (many:Int) (rest l:List Int):Prop :=
 l=[]∧insF z s r b n (k+1) many=some rest∨∃ t l',l=t::l'∧RestT z s r b n k many rest t
def RestQ (z:ZT) (s:DT) (r:RT) (b:Int) (n k:Nat) (many:Int) (rest:List Int) (d:DT) (q:Bool):Prop :=
 q=false∧insF z s r b n (k+1) many=some rest∨q=true∧∃ m f l,pZinst z d=some ((m,f),l)∧RestL z s r b n k many rest l
theorem qm1 {z:ZT} {s:DT} {r:RT} {b:Int} {n k:Nat} {many:Int} {rest:List Int} (hk:(k:Int)≤1500) (h:insF z s r b (n+1) k many=some rest) :
  ∃ d fd q,q9l (wrap64 (b+(k:Int)*86400)) 0=some (d,fd)∧pFits r s d k=some q∧RestQ z s r b n k many rest d q:=by
 unfold insF at h
 obtain ⟨v,hv,h⟩:=bindE h
 unfold visit at hv
 obtain ⟨⟨d,fd⟩,hd,hv⟩:=bindE hv
 obtain ⟨q,hq,hv⟩:=bindE hv
 rw [q15e,q15e,show wrap64 ((k:Int)*86400)=(k:Int)*86400 by unfold wrap64;omega] at hd
 refine ⟨d,fd,q,hd,hq,?_⟩
 cases q with
 |false =>
  rw [cond_false] at hv
  injection hv with hv
  subst hv
  exact .inl ⟨rfl,h⟩
 |true =>
  rw [cond_true] at hv
  obtain ⟨⟨⟨m,f⟩,l⟩,hz,hv⟩:=bindE hv
  injection hv with hv
  refine .inr ⟨rfl,m,f,l,hz,?_⟩
  cases l with
  |nil =>
   simp at hv
   subst hv
   exact .inl ⟨rfl,h⟩
  |cons t l' =>
   simp at hv
   subst hv
   refine .inr ⟨t,l',rfl,?_⟩
   simp only at h
   cases hu:(r.2.2.2.2.1&&decide (r.2.2.2.1<t)) with
   |true =>
    rw [hu,cond_true] at h
    injection h with h
    simp at hu
    exact .inl ⟨hu,h.symm⟩
   |false =>
    rw [hu,cond_false] at h
    refine .inr ⟨fun h1=>by simpa [h1] using hu,?_⟩
    rw [q15e] at h
    cases hc:(wrap64 (many+1)==r.2.2.1) with
    |true =>
     rw [hc,cond_true] at h
     injection h with h
     exact .inl ⟨by simpa using hc,h.symm⟩
    |false =>
     rw [hc,cond_false] at h
     refine .inr ⟨by simpa using hc,?_⟩
     cases hr:insF z s r b n (k+1) (wrap64 (many+1)) with
     |none=>rw [hr] at h;cases h
     |some rest'=>rw [hr] at h;injection h with h;exact ⟨rest',rfl,h.symm⟩
structure InsI (W:World) (p1 p2 p3:Nat) (z:ZT) (s:DT) (r:RT) (Z:ZMap) (s1 s2 s3:Value):Prop where
 gw:GW W
 zc:∀ o,W.cell? ⟨p3,o,none⟩=(zC z)[o]?
 dc:∀ o,W.cell? ⟨p1,o,none⟩=(dC s)[o]?
 rc:∀ o,W.cell? ⟨p2,o,none⟩=(rC r s1 s2 s3)[o]?
 rr:Rep Z (fun _ _=>none) noM (.agg (rC r s1 s2 s3)) (rV r)
 zz:∀ b o u,Z b o=some u→W.cell? ⟨b,o,none⟩=some u
set_option maxHeartbeats 4000000 in
theorem ins_in (l p1 p2 p3:Nat) (z:ZT) (s:DT) (r:RT) (Z:ZMap) (s1 s2 s3:Value) (b:Int) (f0:Int×Int) (ts:List Int) (W0:World) (hb:pDinst s=some (b,f0)) (hts:insF z s r b 1501 0 0=some ts)
  (J:List Int→World→Prop) (hJ:∀ acc W,J acc W→InsI W p1 p2 p3 z s r Z s1 s2 s3) (hst:∀ acc W W',J acc W→Bel W W'→J acc W') (h0:J [] W0)
  (hy:∀ acc t W m,(∃ r2,acc++t::r2=ts)→J acc W→YieldAt Fence.wide m Tryz.prog l #[.int .i64 t] W fun e W'=>e=.returned (.bool true)∧J (acc++[t]) W') :
  CallsIn Fence.wide 5 Tryz.prog 127 #[.func (.yield l) #[] #[],.pointer (some ⟨p1,0,none⟩),.pointer (some ⟨p2,0,none⟩),.pointer (some ⟨p3,0,none⟩)] W0 fun e W'=>(∃ v,e=.returned v)∧J ts W':=by
 refine callsIn_of_wp Tryz.func127 rfl trivial ?_ rfl
 simp only [Tryz.ntmps127,List.size_toArray,List.length_cons,List.length_nil,Nat.reduceAdd,Nat.reduceSub,Array.replicate_succ,Array.replicate_zero,List.push_toArray,List.append_toArray,List.nil_append,List.cons_append]
 have i0:=(hJ _ _ h0).dc
 unfold dC at i0
 gi_wp2_with (refine ⟨trivial,(callsIn_wide.2 (q7u (hJ _ _ h0).gw hb)).mono ?_⟩;rintro e w1 ⟨rfl,hb1⟩)
 have h1:=hst _ _ W0.drew h0 ((Bel.refl _).drew)
 clear i0
 have H:Aside (∀ W,Bel w1 W→J [] W):=fun W hW=>hst _ _ _ h0 (hb1.trans hW)
 gi_loopg [7,8] 1501 (fun g u7 u8 wr=>∃ (k:Nat) (many:Int) (acc rest:List Int),u7=.int .i64 many∧u8=.int .i64 k∧k+g=1501∧insF z s r b g k many=some rest∧acc++rest=ts∧J acc wr)
 case atStart =>
  exact ⟨0,0,[],ts,rfl,rfl,rfl,hts,rfl,H.out _ ((Bel.refl _).alloc _)⟩
 case round =>
  clear h1 H h0 hb1 hts
  obtain ⟨k,many,acc,rest,rfl,rfl,hk,hi,ha,hj⟩:=hrel
  cases gk with
  |zero =>
   obtain rfl:k=1501:=by omega
   injection hi with hi
   subst hi
   have HA:Aside (J ts wr):=by rw [←ha,List.append_nil];exact hj
   clear ha hj hk
   gi_wp2
   first|go_end0|go_ret|skip
   exact ⟨⟨_,rfl⟩,HA.out⟩
  |succ n =>
   have hk1:(k:Int)≤1500:=by omega
   obtain ⟨d,fd,q,hd,hq,hor⟩:=qm1 hk1 hi
   clear hi
   have hI:=hJ _ _ hj
   have hGW:=hI.gw
   have HO:Aside (RestQ z s r b n k many rest d q):=hor
   have HA:Aside (acc++rest=ts∧k+(n+1)=1501):=⟨ha,hk⟩
   clear hor ha hk
   gi_wp2
   refine ⟨trivial,(callsIn_wide.2 (q7t hGW hd)).mono ?_⟩
   rintro e w2 ⟨rfl,hb2⟩
   unfold dC
   have hj2:=hst _ _ _ hj hb2
   have HB:Aside (∀ W,Bel w2 W→J acc W):=fun W hW=>hst _ _ _ hj2 hW
   have hI2:=hJ _ _ hj2
   have e1:=hI2.dc
   have e2:=hI2.rc
   have e3:=hI2.zc
   have l1:p1<w2.heap.size:=q8u (o:=0) (e1 0)
   have l2:p2<w2.heap.size:=q8u (o:=0) (e2 0)
   have l3:p3<w2.heap.size:=q8u (o:=0) (e3 0)
   unfold dC at e1
   unfold rC at e2
   unfold zC at e3
   clear hj hj2 hI hI2 hGW hb2 hd
   gi_wp2
   generalize hW3:(World.alloc (World.alloc w2 _) _)=w3
   have hb3:Bel w2 w3:=by rw [←hW3];exact ((Bel.refl _).alloc _).alloc _
   have e9:∀ o,w3.cell? ⟨w2.heap.size,o,none⟩=(dC d)[o]?:=fun o=>by rw [←hW3];exact q168 (q167 _ (q166 _ _ rfl))
   clear hW3
   have hI3:=hJ _ _ (HB.out _ hb3)
   have hGW3:=hI3.gw
   refine ⟨trivial,(callsIn_wide.2 (c_fits hGW3 hq Z hI3.zz hI3.rr)).mono ?_⟩
   rintro e w4 ⟨rfl,hb4⟩
   have hb24:Bel w2 w4:=hb3.trans hb4
   have e4:∀ o,w4.cell? ⟨w2.heap.size,o,none⟩=(dC d)[o]?:=fun o=>(hb4.cell o (q8u (o:=0) (e9 0))).trans (e9 o)
   clear e9 hb3 hI3 hGW3
   have hj4:=HB.out _ hb24
   have hI4:=hJ _ _ hj4
   have l4:w2.heap.size<w4.heap.size:=q8u (o:=0) (e4 0)
   have l4:w2.heap.size<w4.heap.size:=q8u (o:=0) (e4 0)
   clear e1 e2 e3 l1 l2 l3 HB hb4 hb24 hq
   generalize w2.heap.size+1=g10 at *
   generalize w2.heap.size=g9 at *
   clear w2
   have e1:=hI4.dc
   have e2:=hI4.rc
   have e3:=hI4.zc
   have l1:p1<w4.heap.size:=q8u (o:=0) (e1 0)
   have l2:p2<w4.heap.size:=q8u (o:=0) (e2 0)
   have l3:p3<w4.heap.size:=q8u (o:=0) (e3 0)
   unfold dC at e1 e4
   unfold rC at e2
   unfold zC at e3
   have HB:Aside (∀ W,Bel w4 W→J acc W):=fun W hW=>hst _ _ _ hj4 hW
   have HW:Aside (J acc w4):=hj4
   have hGW:=hI4.gw
   clear hj4 hI4
   rcases HO.out with ⟨rfl,hi⟩|⟨rfl,m,f,l',hz,hor⟩
   ·have HI:Aside (insF z s r b n (k+1) many=some rest):=hi
    clear hi HO
    gi_wp2
    gi_roundg n
    case measure=>omega
    case rel=>exact ⟨k+1,many,acc,rest,rfl,by simp,by have:=HA.out.2;omega,HI.out,HA.out.1,HW.out⟩
   ·have HR:Aside (RestL z s r b n k many rest l'):=hor
    clear hor HO
    gi_wp2
    refine ⟨trivial,(callsIn_wide.2 (q7x hGW hz)).mono ?_⟩
    rintro e w5 ⟨v,rfl,hb5,hv⟩
    have hj5:=HB.out _ hb5
    clear e1 e2 e3 e4 l1 l2 l3 l4 HB HW hGW hz hb5
    rcases HR.out with ⟨rfl,hi⟩|⟨t,l'',rfl,hor⟩
    ·obtain ⟨A,c,rfl⟩:∃ A c,v=.slice A 0 c:=by
      rcases hv with ⟨_,h⟩|⟨_,_,_,_,h,_⟩
      ·exact h
      ·cases h
     have HI:Aside (insF z s r b n (k+1) many=some rest):=hi
     have HJ5:Aside (∀ W,Bel w5 W→J acc W):=fun W hW=>hst _ _ _ hj5 hW
     clear hi HR hv hj5
     gi_wp2
     gi_roundg n
     case measure=>omega
     case rel=>exact ⟨k+1,many,acc,rest,rfl,by simp,by have:=HA.out.2;omega,HI.out,HA.out.1,HJ5.out _ ((Bel.refl _).alloc _)⟩
    ·obtain ⟨g,c,rfl,hcg⟩:∃ g c,v=.slice (some ⟨g,0,none⟩) (t::l'').length c∧w5.cell? ⟨g,0,none⟩=some (.int .i64 t):=by
      rcases hv with ⟨h,_⟩|⟨t',r',g,c,h,h2,h3⟩
      ·cases h
      ·cases h;exact ⟨g,c,h2,h3⟩
     have hln:((t::l'').length:Int)≠0:=by simp;omega
     have hlp:0<(t::l'').length:=by simp
     generalize (t::l'').length=len at hln hlp
     have HT:Aside (RestT z s r b n k many rest t):=hor
     clear hor HR hv
     gi_wp2
     generalize hW6:(World.alloc w5 _)=w6
     have hb6:Bel w5 w6:=by rw [←hW6];exact (Bel.refl _).alloc _
     clear hW6
     have hj6:=hst _ _ _ (hst _ _ _ hj5 hb6) ((Bel.refl w6).drew)
     have g2:=(hJ _ _ hj6).rc
     have g3:w6.drew.cell? ⟨g,0,none⟩=some (.int .i64 t):=(hb6.cell 0 (q8u hcg)).trans hcg
     clear hj5 hb6 hcg
     unfold rC at g2
     have hmo:=qsi
     have hsem:∀ (l:Nat) (ρ:Operand→Value) (o:Oper),(∀ c,o.op≠.defer c)→Oper.semAt (some l) ρ o=execOp ρ o:=Oper.semAt_some
     rcases HT.out with ⟨⟨hU,hlt⟩,hrest⟩|⟨hno,hor⟩
     ·subst hrest
      have HF:Aside (J ts w6.drew):=by have:=HA.out.1;rw [List.append_nil] at this;rw [←this];exact hj6
      rw [hU] at g2
      clear HT HA hj6
      refine wpIn_region_any hmo ?_
      try (change wpAnyIn _ _ _ _ _ _ _ _ _ (World.drew _))
      refine wpAnyIn_take (i:=0) (v:=?_) rfl rfl (by kernel_rfl) (by kernel_rfl) (by kernel_rfl) (fun _ _ _ h=>h) ⟨Or.inl ⟨by rfl,?_⟩,fun _=>rfl⟩ ?_
      rotate_left
      ·intro w;go_simp;first|done|with_reducible rfl
      refine wpAnyIn_ready (rs:=[1]) (by kernel_rfl) (by simp) (AllReadyIn.cons rfl (fun K hK=>?_) AllReadyIn.nil)
      go_simp
      first|refine hK _ _ ?_|refine ⟨fun _ _=>trivial,hK _ _ ?_⟩
      clear hK K
      refine wpAnyIn_take (i:=2) (v:=?_) rfl rfl (by kernel_rfl) (by kernel_rfl) (by kernel_rfl) (fun _ _ _ h=>h) ⟨Or.inl ⟨by rfl,?_⟩,fun _=>rfl⟩ ?_
      rotate_left
      ·intro w;go_simp;first|done|with_reducible rfl
      refine wpAnyIn_take (i:=3) (v:=?_) rfl rfl (by kernel_rfl) (by kernel_rfl) (by kernel_rfl) (fun _ _ _ h=>h) ⟨Or.inl ⟨by rfl,?_⟩,fun _=>rfl⟩ ?_
      rotate_left
      ·intro w;go_simp;first|done|with_reducible rfl
      refine wpAnyIn_take (i:=4) (v:=?_) rfl rfl (by kernel_rfl) (by kernel_rfl) (by kernel_rfl) (fun _ _ _ h=>h) ⟨Or.inl ⟨by rfl,?_⟩,fun _=>rfl⟩ ?_
      rotate_left
      ·intro w;go_simp;first|done|with_reducible rfl
      refine wpAnyIn_take (i:=6) (v:=?_) rfl rfl (by kernel_rfl) (by kernel_rfl) (by kernel_rfl) (fun _ _ _ h=>h) ⟨Or.inl ⟨by rfl,?_⟩,fun _=>rfl⟩ ?_
      rotate_left
      ·intro w;go_simp;first|done|with_reducible rfl
      refine wpAnyIn_ready (rs:=[5,7]) (by kernel_rfl) (by simp) (AllReadyIn.cons rfl (fun K hK=>?_) (AllReadyIn.cons rfl (fun K hK=>?_) AllReadyIn.nil))
      all_goals go_simp
      all_goals refine hK _ _ ?_
      all_goals clear hK K
      ·refine wpAnyIn_ready (rs:=[7]) (by kernel_rfl) (by simp) (AllReadyIn.cons rfl (fun K hK=>?_) AllReadyIn.nil)
       go_simp
       first|refine hK _ _ ?_|refine ⟨fun _ _=>trivial,hK _ _ ?_⟩
       clear hK K
       refine wpAnyIn_take (i:=8) (v:=?_) rfl rfl (by kernel_rfl) (by kernel_rfl) (by kernel_rfl) (fun _ _ _ h=>h) ⟨Or.inl ⟨by rfl,?_⟩,fun _=>rfl⟩ ?_
       rotate_left
       ·intro w;go_simp;first|done|with_reducible rfl
       refine wpAnyIn_take (i:=9) (v:=?_) rfl rfl (by kernel_rfl) (by kernel_rfl) (by kernel_rfl) (fun _ _ _ h=>h) ⟨Or.inl ⟨by rfl,?_⟩,fun _=>rfl⟩ ?_
       rotate_left
       ·intro w;go_simp;first|done|with_reducible rfl
       refine wpAnyIn_take (i:=10) (v:=?_) rfl rfl (by kernel_rfl) (by kernel_rfl) (by kernel_rfl) (fun _ _ _ h=>h) ⟨Or.inl ⟨by rfl,?_⟩,fun _=>rfl⟩ ?_
       rotate_left
       ·intro w;go_simp;first|done|with_reducible rfl
       refine wpAnyIn_take (i:=11) (v:=undef) rfl rfl (by kernel_rfl) (by kernel_rfl) (by kernel_rfl) (fun _ _ _ h=>h) ⟨Or.inr ⟨by rfl,rfl⟩,fun _=>rfl⟩ ?_
       refine wpAnyIn_take (i:=12) (v:=undef) rfl rfl (by kernel_rfl) (by kernel_rfl) (by kernel_rfl) (fun _ _ _ h=>h) ⟨Or.inr ⟨by rfl,rfl⟩,fun _=>rfl⟩ ?_
       refine wpAnyIn_take (i:=13) (v:=undef) rfl rfl (by kernel_rfl) (by kernel_rfl) (by kernel_rfl) (fun _ _ _ h=>h) ⟨Or.inr ⟨by rfl,rfl⟩,fun _=>rfl⟩ ?_
       refine wpAnyIn_ready (rs:=[14]) (by kernel_rfl) (by simp) (AllReadyIn.cons rfl (fun K hK=>?_) AllReadyIn.nil)
       go_simp
       first|refine hK _ _ ?_|refine ⟨fun _ _=>trivial,hK _ _ ?_⟩
       clear hK K
       refine wpAnyIn_ready (rs:=[15]) (by kernel_rfl) (by simp) (AllReadyIn.cons rfl (fun K hK=>?_) AllReadyIn.nil)
       go_simp
       first|refine hK _ _ ?_|refine ⟨fun _ _=>trivial,hK _ _ ?_⟩
       clear hK K
       refine wpAnyIn_take (i:=16) (v:=undef) rfl rfl (by kernel_rfl) (by kernel_rfl) (by kernel_rfl) (fun _ _ _ h=>h) ⟨Or.inr ⟨by rfl,rfl⟩,fun _=>rfl⟩ ?_
       refine wpAnyIn_take (i:=17) (v:=?_) rfl rfl (by kernel_rfl) (by kernel_rfl) (by kernel_rfl) (fun _ _ _ h=>h) ⟨Or.inl ⟨by rfl,?_⟩,fun _=>rfl⟩ ?_
       rotate_left
       ·intro w;go_simp;first|done|with_reducible rfl
       refine wpAnyIn_done (by kernel_rfl) ?_ _
       go_simp
       gi_wp2
       refine bodyPost_ret (results_none rfl _ _ _) rfl ?_
       exact ⟨⟨_,rfl⟩,HF.out⟩
      ·refine wpAnyIn_ready (rs:=[5]) (by kernel_rfl) (by simp) (AllReadyIn.cons rfl (fun K hK=>?_) AllReadyIn.nil)
       go_simp
       first|refine hK _ _ ?_|refine ⟨fun _ _=>trivial,hK _ _ ?_⟩
       clear hK K
       refine wpAnyIn_take (i:=8) (v:=?_) rfl rfl (by kernel_rfl) (by kernel_rfl) (by kernel_rfl) (fun _ _ _ h=>h) ⟨Or.inl ⟨by rfl,?_⟩,fun _=>rfl⟩ ?_
       rotate_left
       ·intro w;go_simp;first|done|with_reducible rfl
       refine wpAnyIn_take (i:=9) (v:=?_) rfl rfl (by kernel_rfl) (by kernel_rfl) (by kernel_rfl) (fun _ _ _ h=>h) ⟨Or.inl ⟨by rfl,?_⟩,fun _=>rfl⟩ ?_
       rotate_left
       ·intro w;go_simp;first|done|with_reducible rfl
       refine wpAnyIn_take (i:=10) (v:=?_) rfl rfl (by kernel_rfl) (by kernel_rfl) (by kernel_rfl) (fun _ _ _ h=>h) ⟨Or.inl ⟨by rfl,?_⟩,fun _=>rfl⟩ ?_
       rotate_left
       ·intro w;go_simp;first|done|with_reducible rfl
       refine wpAnyIn_take (i:=11) (v:=undef) rfl rfl (by kernel_rfl) (by kernel_rfl) (by kernel_rfl) (fun _ _ _ h=>h) ⟨Or.inr ⟨by rfl,rfl⟩,fun _=>rfl⟩ ?_
       refine wpAnyIn_take (i:=12) (v:=undef) rfl rfl (by kernel_rfl) (by kernel_rfl) (by kernel_rfl) (fun _ _ _ h=>h) ⟨Or.inr ⟨by rfl,rfl⟩,fun _=>rfl⟩ ?_
       refine wpAnyIn_take (i:=13) (v:=undef) rfl rfl (by kernel_rfl) (by kernel_rfl) (by kernel_rfl) (fun _ _ _ h=>h) ⟨Or.inr ⟨by rfl,rfl⟩,fun _=>rfl⟩ ?_
       refine wpAnyIn_ready (rs:=[14]) (by kernel_rfl) (by simp) (AllReadyIn.cons rfl (fun K hK=>?_) AllReadyIn.nil)
       go_simp
       first|refine hK _ _ ?_|refine ⟨fun _ _=>trivial,hK _ _ ?_⟩
       clear hK K
       refine wpAnyIn_ready (rs:=[15]) (by kernel_rfl) (by simp) (AllReadyIn.cons rfl (fun K hK=>?_) AllReadyIn.nil)
       go_simp
       first|refine hK _ _ ?_|refine ⟨fun _ _=>trivial,hK _ _ ?_⟩
       clear hK K
       refine wpAnyIn_take (i:=16) (v:=undef) rfl rfl (by kernel_rfl) (by kernel_rfl) (by kernel_rfl) (fun _ _ _ h=>h) ⟨Or.inr ⟨by rfl,rfl⟩,fun _=>rfl⟩ ?_
       refine wpAnyIn_take (i:=17) (v:=?_) rfl rfl (by kernel_rfl) (by kernel_rfl) (by kernel_rfl) (fun _ _ _ h=>h) ⟨Or.inl ⟨by rfl,?_⟩,fun _=>rfl⟩ ?_
       rotate_left
       ·intro w;go_simp;first|done|with_reducible rfl
       refine wpAnyIn_done (by kernel_rfl) ?_ _
       go_simp
       gi_wp2
       refine bodyPost_ret (results_none rfl _ _ _) rfl ?_
       exact ⟨⟨_,rfl⟩,HF.out⟩
     ·have hex:∃ r2,acc++t::r2=ts:=by
       rcases hor with ⟨_,h⟩|⟨_,r2,_,h⟩
       ·exact ⟨[],by rw [←h];exact HA.out.1⟩
       ·exact ⟨r2,by rw [←h];exact HA.out.1⟩
      obtain ⟨fn1,tm1,as1,bo1,hyr1,hR1⟩:=hy acc t w6.drew 4 hex hj6
      have HO2:Aside (wrap64 (many+1)=r.2.2.1∧rest=[t]∨wrap64 (many+1)≠r.2.2.1∧∃ rest',insF z s r b n (k+1) (wrap64 (many+1))=some rest'∧rest=t::rest'):=hor
      clear HT hor hj6 hex
      cases hU:r.2.2.2.2.1 with
      |true =>
       have hlt:¬ r.2.2.2.1<t:=by have:=hno hU;omega
       rw [hU] at g2
       clear hno
       refine wpIn_region_any hmo ?_
       try (change wpAnyIn _ _ _ _ _ _ _ _ _ (World.drew _))
       refine wpAnyIn_take (i:=0) (v:=?_) rfl rfl (by kernel_rfl) (by kernel_rfl) (by kernel_rfl) (fun _ _ _ h=>h) ⟨Or.inl ⟨by rfl,?_⟩,fun _=>rfl⟩ ?_
       rotate_left
       ·intro w;go_simp;first|done|with_reducible rfl
       refine wpAnyIn_ready (rs:=[1]) (by kernel_rfl) (by simp) (AllReadyIn.cons rfl (fun K hK=>?_) AllReadyIn.nil)
       go_simp
       first|refine hK _ _ ?_|refine ⟨fun _ _=>trivial,hK _ _ ?_⟩
       clear hK K
       refine wpAnyIn_take (i:=2) (v:=?_) rfl rfl (by kernel_rfl) (by kernel_rfl) (by kernel_rfl) (fun _ _ _ h=>h) ⟨Or.inl ⟨by rfl,?_⟩,fun _=>rfl⟩ ?_
       rotate_left
       ·intro w;go_simp;first|done|with_reducible rfl
       refine wpAnyIn_take (i:=3) (v:=?_) rfl rfl (by kernel_rfl) (by kernel_rfl) (by kernel_rfl) (fun _ _ _ h=>h) ⟨Or.inl ⟨by rfl,?_⟩,fun _=>rfl⟩ ?_
       rotate_left
       ·intro w;go_simp;first|done|with_reducible rfl
       refine wpAnyIn_take (i:=4) (v:=?_) rfl rfl (by kernel_rfl) (by kernel_rfl) (by kernel_rfl) (fun _ _ _ h=>h) ⟨Or.inl ⟨by rfl,?_⟩,fun _=>rfl⟩ ?_
       rotate_left
       ·intro w;go_simp;first|done|with_reducible rfl
       refine wpAnyIn_take (i:=6) (v:=?_) rfl rfl (by kernel_rfl) (by kernel_rfl) (by kernel_rfl) (fun _ _ _ h=>h) ⟨Or.inl ⟨by rfl,?_⟩,fun _=>rfl⟩ ?_
       rotate_left
       ·intro w;go_simp;first|done|with_reducible rfl
       refine wpAnyIn_ready (rs:=[5,7]) (by kernel_rfl) (by simp) (AllReadyIn.cons rfl (fun K hK=>?_) (AllReadyIn.cons rfl (fun K hK=>?_) AllReadyIn.nil))
       all_goals go_simp
       all_goals refine hK _ _ ?_
       all_goals clear hK K
       ·refine wpAnyIn_ready (rs:=[7]) (by kernel_rfl) (by simp) (AllReadyIn.cons rfl (fun K hK=>?_) AllReadyIn.nil)
        go_simp
        first|refine hK _ _ ?_|refine ⟨fun _ _=>trivial,hK _ _ ?_⟩
        clear hK K
        refine wpAnyIn_take (i:=8) (v:=?_) rfl rfl (by kernel_rfl) (by kernel_rfl) (by kernel_rfl) (fun _ _ _ h=>h) ⟨Or.inl ⟨by rfl,?_⟩,fun _=>rfl⟩ ?_
        rotate_left
        ·intro w;go_simp;first|done|with_reducible rfl
        refine wpAnyIn_take (i:=9) (v:=?_) rfl rfl (by kernel_rfl) (by kernel_rfl) (by kernel_rfl) (fun _ _ _ h=>h) ⟨Or.inl ⟨by rfl,?_⟩,fun _=>rfl⟩ ?_
        rotate_left
        ·intro w;go_simp;first|done|with_reducible rfl
        refine wpAnyIn_take (i:=10) (v:=?_) rfl rfl (by kernel_rfl) (by kernel_rfl) (by kernel_rfl) (fun _ _ _ h=>h) ⟨Or.inl ⟨by rfl,?_⟩,fun _=>rfl⟩ ?_
        rotate_left
        ·intro w;go_simp;first|done|with_reducible rfl
        refine wpAnyIn_take (i:=11) (v:=?_) rfl rfl (by kernel_rfl) (by kernel_rfl) (by kernel_rfl) (fun _ _ _ h=>h) ⟨Or.inl ⟨by rfl,?_⟩,fun _=>rfl⟩ ?_
        rotate_left
        ·intro w;go_simp;first|done|with_reducible rfl
        refine wpAnyIn_take (i:=12) (v:=?_) rfl rfl (by kernel_rfl) (by kernel_rfl) (by kernel_rfl) (fun _ _ _ h=>h) ⟨Or.inl ⟨by rfl,?_⟩,fun _=>rfl⟩ ?_
        rotate_left
        ·intro w;go_simp;first|done|with_reducible rfl
        refine wpAnyIn_take (i:=13) (v:=?_) rfl rfl (by kernel_rfl) (by kernel_rfl) (by kernel_rfl) (fun _ _ _ h=>h) ⟨Or.inl ⟨by rfl,?_⟩,fun _=>rfl⟩ ?_
        rotate_left
        ·intro w;go_simp;first|done|with_reducible rfl
        refine wpAnyIn_ready (rs:=[14]) (by kernel_rfl) (by simp) (AllReadyIn.cons rfl (fun K hK=>?_) AllReadyIn.nil)
        go_simp
        first|refine hK _ _ ?_|refine ⟨fun _ _=>trivial,hK _ _ ?_⟩
        clear hK K
        refine wpAnyIn_ready (rs:=[15]) (by kernel_rfl) (by simp) (AllReadyIn.cons rfl (fun K hK=>?_) AllReadyIn.nil)
        go_simp
        refine hR1.mono ?_
        rintro e w7 ⟨rfl,hj7⟩
        refine hK _ _ ?_
        clear hK K
        refine wpAnyIn_take (i:=16) (v:=?_) rfl rfl (by kernel_rfl) (by kernel_rfl) (by kernel_rfl) (fun _ _ _ h=>h) ⟨Or.inl ⟨by rfl,?_⟩,fun _=>rfl⟩ ?_
        rotate_left
        ·intro w;go_simp;first|done|with_reducible rfl
        refine wpAnyIn_take (i:=17) (v:=?_) rfl rfl (by kernel_rfl) (by kernel_rfl) (by kernel_rfl) (fun _ _ _ h=>h) ⟨Or.inl ⟨by rfl,?_⟩,fun _=>rfl⟩ ?_
        rotate_left
        ·intro w;go_simp;first|done|with_reducible rfl
        refine wpAnyIn_done (by kernel_rfl) ?_ _
        have g7:=(hJ _ _ hj7).rc
        unfold rC at g7
        have HJ:Aside (J (acc++[t]) w7):=hj7
        clear hj7 g2 g3 hyr1 hR1 hlp hln
        go_simp
        rcases HO2.out with ⟨hc,hrest⟩|⟨hc,rest',hi,hrest⟩
        ·subst hrest
         have HF:Aside (J ts w7):=by have:=HA.out.1;rw [←this];exact HJ.out
         clear HO2 HA HJ
         gi_wp2
         refine bodyPost_ret (results_none rfl _ _ _) rfl ?_
         exact ⟨⟨_,rfl⟩,HF.out⟩
        ·have HI:Aside (insF z s r b n (k+1) (wrap64 (many+1))=some rest'):=hi
         have HR2:Aside (rest=t::rest'):=hrest
         have hcb:(wrap64 (many+1)==r.2.2.1)=false:=by simpa using hc
         clear HO2 hi hrest hc
         gi_wp2
         gi_roundg n
         case measure=>omega
         case rel=>exact ⟨k+1,wrap64 (many+1),acc++[t],rest',rfl,by simp,by have:=HA.out.2;omega,HI.out,by rw [←HA.out.1,HR2.out];simp,HJ.out⟩
       ·refine wpAnyIn_ready (rs:=[5]) (by kernel_rfl) (by simp) (AllReadyIn.cons rfl (fun K hK=>?_) AllReadyIn.nil)
        go_simp
        first|refine hK _ _ ?_|refine ⟨fun _ _=>trivial,hK _ _ ?_⟩
        clear hK K
        refine wpAnyIn_take (i:=8) (v:=?_) rfl rfl (by kernel_rfl) (by kernel_rfl) (by kernel_rfl) (fun _ _ _ h=>h) ⟨Or.inl ⟨by rfl,?_⟩,fun _=>rfl⟩ ?_
        rotate_left
        ·intro w;go_simp;first|done|with_reducible rfl
        refine wpAnyIn_take (i:=9) (v:=?_) rfl rfl (by kernel_rfl) (by kernel_rfl) (by kernel_rfl) (fun _ _ _ h=>h) ⟨Or.inl ⟨by rfl,?_⟩,fun _=>rfl⟩ ?_
        rotate_left
        ·intro w;go_simp;first|done|with_reducible rfl
        refine wpAnyIn_take (i:=10) (v:=?_) rfl rfl (by kernel_rfl) (by kernel_rfl) (by kernel_rfl) (fun _ _ _ h=>h) ⟨Or.inl ⟨by rfl,?_⟩,fun _=>rfl⟩ ?_
        rotate_left
        ·intro w;go_simp;first|done|with_reducible rfl
        refine wpAnyIn_take (i:=11) (v:=?_) rfl rfl (by kernel_rfl) (by kernel_rfl) (by kernel_rfl) (fun _ _ _ h=>h) ⟨Or.inl ⟨by rfl,?_⟩,fun _=>rfl⟩ ?_
        rotate_left
        ·intro w;go_simp;first|done|with_reducible rfl
        refine wpAnyIn_take (i:=12) (v:=?_) rfl rfl (by kernel_rfl) (by kernel_rfl) (by kernel_rfl) (fun _ _ _ h=>h) ⟨Or.inl ⟨by rfl,?_⟩,fun _=>rfl⟩ ?_
        rotate_left
        ·intro w;go_simp;first|done|with_reducible rfl
        refine wpAnyIn_take (i:=13) (v:=?_) rfl rfl (by kernel_rfl) (by kernel_rfl) (by kernel_rfl) (fun _ _ _ h=>h) ⟨Or.inl ⟨by rfl,?_⟩,fun _=>rfl⟩ ?_
        rotate_left
        ·intro w;go_simp;first|done|with_reducible rfl
        refine wpAnyIn_ready (rs:=[14]) (by kernel_rfl) (by simp) (AllReadyIn.cons rfl (fun K hK=>?_) AllReadyIn.nil)
        go_simp
        first|refine hK _ _ ?_|refine ⟨fun _ _=>trivial,hK _ _ ?_⟩
        clear hK K
        refine wpAnyIn_ready (rs:=[15]) (by kernel_rfl) (by simp) (AllReadyIn.cons rfl (fun K hK=>?_) AllReadyIn.nil)
        go_simp
        refine hR1.mono ?_
        rintro e w7 ⟨rfl,hj7⟩
        refine hK _ _ ?_
        clear hK K
        refine wpAnyIn_take (i:=16) (v:=?_) rfl rfl (by kernel_rfl) (by kernel_rfl) (by kernel_rfl) (fun _ _ _ h=>h) ⟨Or.inl ⟨by rfl,?_⟩,fun _=>rfl⟩ ?_
        rotate_left
        ·intro w;go_simp;first|done|with_reducible rfl
        refine wpAnyIn_take (i:=17) (v:=?_) rfl rfl (by kernel_rfl) (by kernel_rfl) (by kernel_rfl) (fun _ _ _ h=>h) ⟨Or.inl ⟨by rfl,?_⟩,fun _=>rfl⟩ ?_
        rotate_left
        ·intro w;go_simp;first|done|with_reducible rfl
        refine wpAnyIn_done (by kernel_rfl) ?_ _
        have g7:=(hJ _ _ hj7).rc
        unfold rC at g7
        have HJ:Aside (J (acc++[t]) w7):=hj7
        clear hj7 g2 g3 hyr1 hR1 hlp hln
        go_simp
        rcases HO2.out with ⟨hc,hrest⟩|⟨hc,rest',hi,hrest⟩
        ·subst hrest
         have HF:Aside (J ts w7):=by have:=HA.out.1;rw [←this];exact HJ.out
         clear HO2 HA HJ
         gi_wp2
         refine bodyPost_ret (results_none rfl _ _ _) rfl ?_
         exact ⟨⟨_,rfl⟩,HF.out⟩
        ·have HI:Aside (insF z s r b n (k+1) (wrap64 (many+1))=some rest'):=hi
         have HR2:Aside (rest=t::rest'):=hrest
         have hcb:(wrap64 (many+1)==r.2.2.1)=false:=by simpa using hc
         clear HO2 hi hrest hc
         gi_wp2
         gi_roundg n
         case measure=>omega
         case rel=>exact ⟨k+1,wrap64 (many+1),acc++[t],rest',rfl,by simp,by have:=HA.out.2;omega,HI.out,by rw [←HA.out.1,HR2.out];simp,HJ.out⟩
      |false =>
       rw [hU] at g2
       clear hno
       refine wpIn_region_any hmo ?_
       try (change wpAnyIn _ _ _ _ _ _ _ _ _ (World.drew _))
       refine wpAnyIn_take (i:=0) (v:=?_) rfl rfl (by kernel_rfl) (by kernel_rfl) (by kernel_rfl) (fun _ _ _ h=>h) ⟨Or.inl ⟨by rfl,?_⟩,fun _=>rfl⟩ ?_
       rotate_left
       ·intro w;go_simp;first|done|with_reducible rfl
       refine wpAnyIn_ready (rs:=[1]) (by kernel_rfl) (by simp) (AllReadyIn.cons rfl (fun K hK=>?_) AllReadyIn.nil)
       go_simp
       first|refine hK _ _ ?_|refine ⟨fun _ _=>trivial,hK _ _ ?_⟩
       clear hK K
       refine wpAnyIn_take (i:=2) (v:=?_) rfl rfl (by kernel_rfl) (by kernel_rfl) (by kernel_rfl) (fun _ _ _ h=>h) ⟨Or.inl ⟨by rfl,?_⟩,fun _=>rfl⟩ ?_
       rotate_left
       ·intro w;go_simp;first|done|with_reducible rfl
       refine wpAnyIn_take (i:=3) (v:=undef) rfl rfl (by kernel_rfl) (by kernel_rfl) (by kernel_rfl) (fun _ _ _ h=>h) ⟨Or.inr ⟨by rfl,rfl⟩,fun _=>rfl⟩ ?_
       refine wpAnyIn_take (i:=4) (v:=undef) rfl rfl (by kernel_rfl) (by kernel_rfl) (by kernel_rfl) (fun _ _ _ h=>h) ⟨Or.inr ⟨by rfl,rfl⟩,fun _=>rfl⟩ ?_
       refine wpAnyIn_take (i:=6) (v:=undef) rfl rfl (by kernel_rfl) (by kernel_rfl) (by kernel_rfl) (fun _ _ _ h=>h) ⟨Or.inr ⟨by rfl,rfl⟩,fun _=>rfl⟩ ?_
       refine wpAnyIn_ready (rs:=[5,7]) (by kernel_rfl) (by simp) (AllReadyIn.cons rfl (fun K hK=>?_) (AllReadyIn.cons rfl (fun K hK=>?_) AllReadyIn.nil))
       all_goals go_simp
       all_goals refine hK _ _ ?_
       all_goals clear hK K
       ·refine wpAnyIn_ready (rs:=[7]) (by kernel_rfl) (by simp) (AllReadyIn.cons rfl (fun K hK=>?_) AllReadyIn.nil)
        go_simp
        first|refine hK _ _ ?_|refine ⟨fun _ _=>trivial,hK _ _ ?_⟩
        clear hK K
        refine wpAnyIn_take (i:=8) (v:=undef) rfl rfl (by kernel_rfl) (by kernel_rfl) (by kernel_rfl) (fun _ _ _ h=>h) ⟨Or.inr ⟨by rfl,rfl⟩,fun _=>rfl⟩ ?_
        refine wpAnyIn_take (i:=9) (v:=?_) rfl rfl (by kernel_rfl) (by kernel_rfl) (by kernel_rfl) (fun _ _ _ h=>h) ⟨Or.inl ⟨by rfl,?_⟩,fun _=>rfl⟩ ?_
        rotate_left
        ·intro w;go_simp;first|done|with_reducible rfl
        refine wpAnyIn_take (i:=10) (v:=?_) rfl rfl (by kernel_rfl) (by kernel_rfl) (by kernel_rfl) (fun _ _ _ h=>h) ⟨Or.inl ⟨by rfl,?_⟩,fun _=>rfl⟩ ?_
        rotate_left
        ·intro w;go_simp;first|done|with_reducible rfl
        refine wpAnyIn_take (i:=11) (v:=?_) rfl rfl (by kernel_rfl) (by kernel_rfl) (by kernel_rfl) (fun _ _ _ h=>h) ⟨Or.inl ⟨by rfl,?_⟩,fun _=>rfl⟩ ?_
        rotate_left
        ·intro w;go_simp;first|done|with_reducible rfl
        refine wpAnyIn_take (i:=12) (v:=?_) rfl rfl (by kernel_rfl) (by kernel_rfl) (by kernel_rfl) (fun _ _ _ h=>h) ⟨Or.inl ⟨by rfl,?_⟩,fun _=>rfl⟩ ?_
        rotate_left
        ·intro w;go_simp;first|done|with_reducible rfl
        refine wpAnyIn_take (i:=13) (v:=?_) rfl rfl (by kernel_rfl) (by kernel_rfl) (by kernel_rfl) (fun _ _ _ h=>h) ⟨Or.inl ⟨by rfl,?_⟩,fun _=>rfl⟩ ?_
        rotate_left
        ·intro w;go_simp;first|done|with_reducible rfl
        refine wpAnyIn_ready (rs:=[14]) (by kernel_rfl) (by simp) (AllReadyIn.cons rfl (fun K hK=>?_) AllReadyIn.nil)
        go_simp
        first|refine hK _ _ ?_|refine ⟨fun _ _=>trivial,hK _ _ ?_⟩
        clear hK K
        refine wpAnyIn_ready (rs:=[15]) (by kernel_rfl) (by simp) (AllReadyIn.cons rfl (fun K hK=>?_) AllReadyIn.nil)
        go_simp
        refine hR1.mono ?_
        rintro e w7 ⟨rfl,hj7⟩
        refine hK _ _ ?_
        clear hK K
        refine wpAnyIn_take (i:=16) (v:=?_) rfl rfl (by kernel_rfl) (by kernel_rfl) (by kernel_rfl) (fun _ _ _ h=>h) ⟨Or.inl ⟨by rfl,?_⟩,fun _=>rfl⟩ ?_
        rotate_left
        ·intro w;go_simp;first|done|with_reducible rfl
        refine wpAnyIn_take (i:=17) (v:=?_) rfl rfl (by kernel_rfl) (by kernel_rfl) (by kernel_rfl) (fun _ _ _ h=>h) ⟨Or.inl ⟨by rfl,?_⟩,fun _=>rfl⟩ ?_
        rotate_left
        ·intro w;go_simp;first|done|with_reducible rfl
        refine wpAnyIn_done (by kernel_rfl) ?_ _
        have g7:=(hJ _ _ hj7).rc
        unfold rC at g7
        have HJ:Aside (J (acc++[t]) w7):=hj7
        clear hj7 g2 g3 hyr1 hR1 hlp hln
        go_simp
        rcases HO2.out with ⟨hc,hrest⟩|⟨hc,rest',hi,hrest⟩
        ·subst hrest
         have HF:Aside (J ts w7):=by have:=HA.out.1;rw [←this];exact HJ.out
         clear HO2 HA HJ
         gi_wp2
         refine bodyPost_ret (results_none rfl _ _ _) rfl ?_
         exact ⟨⟨_,rfl⟩,HF.out⟩
        ·have HI:Aside (insF z s r b n (k+1) (wrap64 (many+1))=some rest'):=hi
         have HR2:Aside (rest=t::rest'):=hrest
         have hcb:(wrap64 (many+1)==r.2.2.1)=false:=by simpa using hc
         clear HO2 hi hrest hc
         gi_wp2
         gi_roundg n
         case measure=>omega
         case rel=>exact ⟨k+1,wrap64 (many+1),acc++[t],rest',rfl,by simp,by have:=HA.out.2;omega,HI.out,by rw [←HA.out.1,HR2.out];simp,HJ.out⟩
       ·refine wpAnyIn_ready (rs:=[5]) (by kernel_rfl) (by simp) (AllReadyIn.cons rfl (fun K hK=>?_) AllReadyIn.nil)
        go_simp
        first|refine hK _ _ ?_|refine ⟨fun _ _=>trivial,hK _ _ ?_⟩
        clear hK K
        refine wpAnyIn_take (i:=8) (v:=undef) rfl rfl (by kernel_rfl) (by kernel_rfl) (by kernel_rfl) (fun _ _ _ h=>h) ⟨Or.inr ⟨by rfl,rfl⟩,fun _=>rfl⟩ ?_
        refine wpAnyIn_take (i:=9) (v:=?_) rfl rfl (by kernel_rfl) (by kernel_rfl) (by kernel_rfl) (fun _ _ _ h=>h) ⟨Or.inl ⟨by rfl,?_⟩,fun _=>rfl⟩ ?_
        rotate_left
        ·intro w;go_simp;first|done|with_reducible rfl
        refine wpAnyIn_take (i:=10) (v:=?_) rfl rfl (by kernel_rfl) (by kernel_rfl) (by kernel_rfl) (fun _ _ _ h=>h) ⟨Or.inl ⟨by rfl,?_⟩,fun _=>rfl⟩ ?_
        rotate_left
        ·intro w;go_simp;first|done|with_reducible rfl
        refine wpAnyIn_take (i:=11) (v:=?_) rfl rfl (by kernel_rfl) (by kernel_rfl) (by kernel_rfl) (fun _ _ _ h=>h) ⟨Or.inl ⟨by rfl,?_⟩,fun _=>rfl⟩ ?_
        rotate_left
        ·intro w;go_simp;first|done|with_reducible rfl
        refine wpAnyIn_take (i:=12) (v:=?_) rfl rfl (by kernel_rfl) (by kernel_rfl) (by kernel_rfl) (fun _ _ _ h=>h) ⟨Or.inl ⟨by rfl,?_⟩,fun _=>rfl⟩ ?_
        rotate_left
        ·intro w;go_simp;first|done|with_reducible rfl
        refine wpAnyIn_take (i:=13) (v:=?_) rfl rfl (by kernel_rfl) (by kernel_rfl) (by kernel_rfl) (fun _ _ _ h=>h) ⟨Or.inl ⟨by rfl,?_⟩,fun _=>rfl⟩ ?_
        rotate_left
        ·intro w;go_simp;first|done|with_reducible rfl
        refine wpAnyIn_ready (rs:=[14]) (by kernel_rfl) (by simp) (AllReadyIn.cons rfl (fun K hK=>?_) AllReadyIn.nil)
        go_simp
        first|refine hK _ _ ?_|refine ⟨fun _ _=>trivial,hK _ _ ?_⟩
        clear hK K
        refine wpAnyIn_ready (rs:=[15]) (by kernel_rfl) (by simp) (AllReadyIn.cons rfl (fun K hK=>?_) AllReadyIn.nil)
        go_simp
        refine hR1.mono ?_
        rintro e w7 ⟨rfl,hj7⟩
        refine hK _ _ ?_
        clear hK K
        refine wpAnyIn_take (i:=16) (v:=?_) rfl rfl (by kernel_rfl) (by kernel_rfl) (by kernel_rfl) (fun _ _ _ h=>h) ⟨Or.inl ⟨by rfl,?_⟩,fun _=>rfl⟩ ?_
        rotate_left
        ·intro w;go_simp;first|done|with_reducible rfl
        refine wpAnyIn_take (i:=17) (v:=?_) rfl rfl (by kernel_rfl) (by kernel_rfl) (by kernel_rfl) (fun _ _ _ h=>h) ⟨Or.inl ⟨by rfl,?_⟩,fun _=>rfl⟩ ?_
        rotate_left
        ·intro w;go_simp;first|done|with_reducible rfl
        refine wpAnyIn_done (by kernel_rfl) ?_ _
        have g7:=(hJ _ _ hj7).rc
        unfold rC at g7
        have HJ:Aside (J (acc++[t]) w7):=hj7
        clear hj7 g2 g3 hyr1 hR1 hlp hln
        go_simp
        rcases HO2.out with ⟨hc,hrest⟩|⟨hc,rest',hi,hrest⟩
        ·subst hrest
         have HF:Aside (J ts w7):=by have:=HA.out.1;rw [←this];exact HJ.out
         clear HO2 HA HJ
         gi_wp2
         refine bodyPost_ret (results_none rfl _ _ _) rfl ?_
         exact ⟨⟨_,rfl⟩,HF.out⟩
        ·have HI:Aside (insF z s r b n (k+1) (wrap64 (many+1))=some rest'):=hi
         have HR2:Aside (rest=t::rest'):=hrest
         have hcb:(wrap64 (many+1)==r.2.2.1)=false:=by simpa using hc
         clear HO2 hi hrest hc
         gi_wp2
         gi_roundg n
         case measure=>omega
         case rel=>exact ⟨k+1,wrap64 (many+1),acc++[t],rest',rfl,by simp,by have:=HA.out.2;omega,HI.out,by rw [←HA.out.1,HR2.out];simp,HJ.out⟩
end Go.Proofs.YtfakibajjibjjaaGreatDoor
