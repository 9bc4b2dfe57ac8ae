/- canonical.body at the body of the laws' closed test: a range over bytes.SplitSeq. -/
import Derived.Test.YtmlcmoaonaomfaaGreatDoorZ31
import Derived.Lib.SlBytesConst
import Derived.BigRegionIn
import Derived.Shelf.RegionOpen
import Derived.RangeFuncCalls
import Derived.Lib.IndexMore
import Derived.Sort.LoopGhostIn
namespace Go.Proofs.YtmlcmoaonaomfaaGreatDoor
open Go.RowKit
theorem q91 {f:FuncId} {s r:BA} (h:CallOk Tryz.prog f [.c (.str s)] (.c (.str r),[])) (w:World) (hG:GW w):Calls Tryz.prog f #[.string s] w λe w'=>e=.returned (.string r)/\Bel w w':=by
 refine (h.2.2 w (λ_ _=>none) (λ_ _=>none) #[.string s] hG (by simp) (by simp) rfl ?_).mono ?_
 ·intro i u x h1 h2
  match i with
  |0=>simp at h1 h2;subst h1;subst h2;exact .c (.str s)
  |i+1=>simp at h1
 ·rintro e w' ⟨cv,Z',m',rfl,_,R,r1,_⟩
  exact ⟨by rw [qy1 r1],q1el.1 R.bel⟩
theorem mo_okY:Tryz.prog.follows .mixedOrders=true:=by kernel_rfl
theorem sqz_hi:CallOk Tryz.prog 116 [.c (.str ⟨#[104,105]⟩)] (.c (.str ⟨#[104,105]⟩),[]):=qh Tryz.prog lv ⟨λ_ _=>none,λ_=>none⟩ mo_okY ⟨λ_ _ _ h=>by (cases h),λ_ _ _ _ _ h=>by (cases h)⟩ (qf (n:=30) (by kernel_rfl))
theorem sqz_no:CallOk Tryz.prog 116 [.c (.str ⟨#[]⟩)] (.c (.str ⟨#[]⟩),[]):=qh Tryz.prog lv ⟨λ_ _=>none,λ_=>none⟩ mo_okY ⟨λ_ _ _ h=>by (cases h),λ_ _ _ _ _ h=>by (cases h)⟩ (qf (n:=30) (by kernel_rfl))
theorem qy2 (w:World):Calls Tryz.prog 62 #[.string ⟨#[13,10]⟩,.int .i64 0] w λe w'=>e=.returned (.string ⟨#[]⟩)/\Bel w w' :=
 (Any.strings_Repeat lays105 qa ⟨#[13,10]⟩ 0 w (by decide) (by decide)).mono λe w' h=>⟨h.1,⟨h.2.os,h.2.tape,h.2.output,h.2.size,h.2.block⟩⟩
structure BoI (W w:World) (L D:Nat) (rec:Loop) (p1 p2 p3 g B3 Be:Nat) (s:Value) (mm:Int) (out:Value) (e:Int):Prop where
 lp:W.heap[L]?=some (.loop rec)
 dd:W.heap[D]?=some (.deferred (some []))
 sp:SpI W p1 p2 p3 g s mm
 bel:Bel w W
 gw:GW W
 out:W.cell? ⟨B3,0,none⟩=some out
 outf:W.frozen? ⟨B3,0,none⟩=false
 emp:W.cell? ⟨Be,0,none⟩=some (.int .i64 e)
 empf:W.frozen? ⟨Be,0,none⟩=false
theorem gwb {w w':World} (h:GW w) (hb:Bel w w'):GW w':=BelA.gw (q1el.2 hb) ⟨h,GB.no⟩
section
variable {W W' w:World} {L D:Nat} {r r':Loop} {p1 p2 p3 g B3 Be:Nat} {s out:Value} {mm e:Int}
theorem qas {k o:Nat} {v:Value} (h:W.cell? ⟨k,o,none⟩=some v) (hl:W.heap[L]?=some (.loop r)):k≠L:=by
 rintro rfl
 simp [World.cell?,hl] at h
theorem qx7 {k o:Nat} {v:Value} (h:W.cell? ⟨k,o,none⟩=some v) (hl:W.heap[L]?=some (.loop r)) (x:Obj):(W.putObj L x).cell? ⟨k,o,none⟩=some v :=
 (World.cell?_of_block (World.putObj_heap_other (qas h hl))).trans h
theorem qx8 {k o:Nat} {v:Value} (h:W.cell? ⟨k,o,none⟩=some v) (hl:W.heap[L]?=some (.loop r)) (hf:W.frozen? ⟨k,o,none⟩=false) (x:Obj):(W.putObj L x).frozen? ⟨k,o,none⟩=false :=
 (World.frozen?_of_block (World.putObj_heap_other (qas h hl))).trans hf
theorem BoI.put (h:BoI W w L D r p1 p2 p3 g B3 Be s mm out e) (hG:GW w) (hL:w.heap.size<=L) (hD:D≠L):BoI (W.putObj L (.loop r')) w L D r' p1 p2 p3 g B3 Be s mm out e:=by
 have hlt:L<W.heap.size:=(Array.getElem?_eq_some_iff.1 h.lp).1
 have hb:Bel w (W.putObj L (.loop r')):=⟨h.bel.os,h.bel.tape,h.bel.output,by simpa using h.bel.size,λk hk=>(World.putObj_heap_other (by omega)).trans (h.bel.block k hk)⟩
 exact ⟨World.putObj_heap_same hlt,(World.putObj_heap_other hD).trans h.dd,
  ⟨qx7 h.sp.sep h.lp _,qx7 h.sp.s h.lp _,qx8 h.sp.s h.lp h.sp.fr _,qx7 h.sp.sv h.lp _,qx7 h.sp.g0 h.lp _,qx7 h.sp.g1 h.lp _,qx7 h.sp.ml h.lp _⟩,
  hb,gwb hG hb,qx7 h.out h.lp _,qx8 h.out h.lp h.outf _,qx7 h.emp h.lp _,qx8 h.emp h.lp h.empf _⟩
theorem BoI.later (h:BoI W w L D r p1 p2 p3 g B3 Be s mm out e) (hb:Bel W W') (hG:GW w):BoI W' w L D r p1 p2 p3 g B3 Be s mm out e:=by
 have c:∀ {k o v},W.cell? ⟨k,o,none⟩=some v->W'.cell? ⟨k,o,none⟩=some v:=λhc=>(hb.cell _ (qar hc)).trans hc
 have f:∀ {k o v},W.cell? ⟨k,o,none⟩=some v->W.frozen? ⟨k,o,none⟩=false->W'.frozen? ⟨k,o,none⟩=false:=λhc hf=>(hb.cells.2 _ _ (qar hc)).trans hf
 have hb2:Bel w W':=h.bel.trans hb
 exact ⟨(hb.block _ (Array.getElem?_eq_some_iff.1 h.lp).1).trans h.lp,(hb.block _ (Array.getElem?_eq_some_iff.1 h.dd).1).trans h.dd,
  ⟨c h.sp.sep,c h.sp.s,f h.sp.s h.sp.fr,c h.sp.sv,c h.sp.g0,c h.sp.g1,c h.sp.ml⟩,hb2,gwb hG hb2,c h.out,f h.out h.outf,c h.emp,f h.emp h.empf⟩
theorem q16c {k j o:Nat} {v x:Value} (h:W.cell? ⟨k,o,none⟩=some v) (hj:k≠j):(W.setCell ⟨j,0,none⟩ x).cell? ⟨k,o,none⟩=some v :=
 (World.cell?_of_block (Below.heap_setCell W ⟨j,0,none⟩ x k hj)).trans h
theorem ml_lt (hG:GW w):0<w.heap.size:=by
 have h:=hG
 unfold GW at h
 obtain ⟨m,hm⟩:=h.1
 exact qar hm
theorem BoI.setO (h:BoI W w L D r p1 p2 p3 g B3 Be s mm out e) (hG:GW w) (v:Value) (hk:w.heap.size<=B3) (h1:p1≠B3) (h2:p2≠B3) (h3:p3≠B3) (hg:g≠B3) (hE:Be≠B3) (hD:D≠B3):BoI (W.setCell ⟨B3,0,none⟩ v) w L D r p1 p2 p3 g B3 Be s mm v e:=by
 have hb:Bel w (W.setCell ⟨B3,0,none⟩ v):=h.bel.setCell hk v
 have hL:=qas h.out h.lp
 have hml:=ml_lt hG
 exact ⟨(Below.heap_setCell W ⟨B3,0,none⟩ v L (Ne.symm hL)).trans h.lp,(Below.heap_setCell W ⟨B3,0,none⟩ v D hD).trans h.dd,
  ⟨q16c h.sp.sep h1,q16c h.sp.s h2,by rw [World.frozen?_setCell];exact h.sp.fr,q16c h.sp.sv h3,q16c h.sp.g0 hg,q16c h.sp.g1 hg,q16c h.sp.ml (by omega)⟩,
  hb,gwb hG hb,World.cell?_setCell_same' _ _ _ (by rw [h.out];rfl),by rw [World.frozen?_setCell];exact h.outf,q16c h.emp hE,by rw [World.frozen?_setCell];exact h.empf⟩
theorem BoI.setE (h:BoI W w L D r p1 p2 p3 g B3 Be s mm out e) (hG:GW w) (n:Int) (hk:w.heap.size<=Be) (h1:p1≠Be) (h2:p2≠Be) (h3:p3≠Be) (hg:g≠Be) (hE:B3≠Be) (hD:D≠Be):BoI (W.setCell ⟨Be,0,none⟩ (.int .i64 n)) w L D r p1 p2 p3 g B3 Be s mm out n:=by
 have hb:Bel w (W.setCell ⟨Be,0,none⟩ (.int .i64 n)):=h.bel.setCell hk _
 have hL:=qas h.emp h.lp
 have hml:=ml_lt hG
 exact ⟨(Below.heap_setCell W ⟨Be,0,none⟩ _ L (Ne.symm hL)).trans h.lp,(Below.heap_setCell W ⟨Be,0,none⟩ _ D hD).trans h.dd,
  ⟨q16c h.sp.sep h1,q16c h.sp.s h2,by rw [World.frozen?_setCell];exact h.sp.fr,q16c h.sp.sv h3,q16c h.sp.g0 hg,q16c h.sp.g1 hg,q16c h.sp.ml (by omega)⟩,
  hb,gwb hG hb,q16c h.out hE,by rw [World.frozen?_setCell];exact h.outf,World.cell?_setCell_same' _ _ _ (by rw [h.emp];rfl),by rw [World.frozen?_setCell];exact h.empf⟩
theorem BoI.setS (h:BoI W w L D r p1 p2 p3 g B3 Be s mm out e) (hG:GW w) (v:Value) (hk:w.heap.size<=p2) (h1:p1≠p2) (h3:p3≠p2) (hg:g≠p2) (hE:B3≠p2) (hF:Be≠p2) (hD:D≠p2):BoI (W.setCell ⟨p2,0,none⟩ v) w L D r p1 p2 p3 g B3 Be v mm out e:=by
 have hb:Bel w (W.setCell ⟨p2,0,none⟩ v):=h.bel.setCell hk v
 have hL:=qas h.sp.s h.lp
 have hml:=ml_lt hG
 exact ⟨(Below.heap_setCell W ⟨p2,0,none⟩ _ L (Ne.symm hL)).trans h.lp,(Below.heap_setCell W ⟨p2,0,none⟩ _ D hD).trans h.dd,
  ⟨q16c h.sp.sep h1,World.cell?_setCell_same' _ _ _ (by rw [h.sp.s];rfl),by rw [World.frozen?_setCell];exact h.sp.fr,q16c h.sp.sv h3,q16c h.sp.g0 hg,q16c h.sp.g1 hg,q16c h.sp.ml (by omega)⟩,
  hb,gwb hG hb,q16c h.out hE,by rw [World.frozen?_setCell];exact h.outf,q16c h.emp hF,by rw [World.frozen?_setCell];exact h.empf⟩
end
theorem qbn {W:World} {v:Value} {l:List UInt8} (h:(Conv.bytesToString v).run Tryz.prog W=.ok (.string ⟨l.toArray⟩) W) (hv:∃ A n c,v=.slice A n c):(convert 26 9 v).run Tryz.prog W=.ok (.string ⟨l.toArray⟩) W:=by
 obtain ⟨A,n,c,rfl⟩:=hv
 simp only [convert,Sem.run_bind,q154 Tryz.underlying26,q154 Tryz.underlying9,q154 Tryz.underlying5,Result.andThen_ok,h]
theorem qbj {W:World} {b off:Nat} (h0:W.cell? ⟨b,off,none⟩=some (.int .u8 104)) (h1:W.cell? ⟨b,off+1,none⟩=some (.int .u8 105)):(convert 26 9 (.slice (some ⟨b,off,none⟩) 2 2)).run Tryz.prog W=.ok (.string ⟨#[104,105]⟩) W:=by
 refine qbn (l:=[104,105]) (q8s (Z:=λb' o=>W.cell? ⟨b',o,none⟩) (es:=[[.int .u8 104],[.int .u8 105]]) (λ_ _ _ h=>h) ?_ rfl) ⟨_,_,_,rfl⟩
 refine .sl _ 2 2 1 b off (λj=>if j=0 then .int .u8 104 else .int .u8 105) _ rfl (by omega) (by decide) (by simp) (λ_=>rfl) ?_ ?_ (by simp)
 ·intro i e j x he hx
  match i,j with
  |0,0=>simpa using h0
  |0,j+1=>simp at he;subst he;simp at hx
  |1,0=>simpa using h1
  |1,j+1=>simp at he;subst he;simp at hx
  |i+2,_=>simp at he
 ·intro i e j x he hx
  match i,j with
  |0,0=>simp at he;subst he;simp at hx;subst hx;exact .int _ _
  |0,j+1=>simp at he;subst he;simp at hx
  |1,0=>simp at he;subst he;simp at hx;subst hx;exact .int _ _
  |1,j+1=>simp at he;subst he;simp at hx
  |i+2,_=>simp at he
theorem qbk {W:World} (a:Addr):(convert 26 9 (.slice (some a) 0 0)).run Tryz.prog W=.ok (.string ⟨#[]⟩) W:=by
 refine qbn (l:=[]) (q8s (Z:=λ_ _=>none) (es:=[]) (by simp) ?_ rfl) ⟨_,_,_,rfl⟩
 exact qxw _ (by decide) (λh=>by cases h)
theorem u8Info:∃ i0 z,Tryz.prog.info? 5=some i0/\i0.size=1/\i0.zero=some z/\i0.bytes=1:=by
 have h1:=sz5
 have h2:=by5
 have h3:=zo5
 unfold szO at h1
 unfold byO at h2
 unfold zOk at h3
 cases hi:Tryz.prog.info? 5 with
 |none=>rw [hi] at h1;cases h1
 |some i0 =>
  rw [hi] at h1 h2 h3
  simp only [x18q,Option.some.injEq,decide_eq_true_eq] at h1 h2 h3
  cases hz:i0.zero with
  |none=>rw [hz] at h3;cases h3
  |some z=>exact ⟨i0,z,rfl,h1,hz,h2⟩
theorem cut_le (k e:Nat) {x:Nat}:(Question.appendCap k 0 e).cut x<=maxLen∨9223372036854775807<k:=by
 by_cases hk:9223372036854775807<k
 ·exact .inr hk
 ·left
  simp only [Question.cut]
  have:x % (2 ^ 63 - k)<2 ^ 63 - k:=Nat.mod_lt _ (by omega)
  unfold maxLen
  omega
theorem q19 (W:World) (o:Obj) {k:Nat} (h:k=W.heap.size):(W.alloc o).heap[k]?=some o:=by subst h;exact World.alloc_heap_new W o
theorem q1b {W:World} {x:Obj} (o:Obj) {k:Nat} (h:W.heap[k]?=some x):(W.alloc o).heap[k]?=some x:=(Below.heap_alloc W o k (Array.getElem?_eq_some_iff.1 h).1).trans h
theorem six (w:World) (o0 o1 o2 o3 o4 o5:Obj):((((((w.alloc o0).alloc o1).alloc o2).alloc o3).alloc o4).alloc o5).heap[w.heap.size]?=some o0/\((((((w.alloc o0).alloc o1).alloc o2).alloc o3).alloc o4).alloc o5).heap[w.heap.size+1]?=some o1 /\
  ((((((w.alloc o0).alloc o1).alloc o2).alloc o3).alloc o4).alloc o5).heap[w.heap.size+2]?=some o2/\((((((w.alloc o0).alloc o1).alloc o2).alloc o3).alloc o4).alloc o5).heap[w.heap.size+3]?=some o3 /\
  ((((((w.alloc o0).alloc o1).alloc o2).alloc o3).alloc o4).alloc o5).heap[w.heap.size+4]?=some o4/\((((((w.alloc o0).alloc o1).alloc o2).alloc o3).alloc o4).alloc o5).heap[w.heap.size+5]?=some o5 :=
 ⟨q1b _ (q1b _ (q1b _ (q1b _ (q1b _ (q19 _ _ rfl))))),q1b _ (q1b _ (q1b _ (q1b _ (q19 _ _ (by simp))))),q1b _ (q1b _ (q1b _ (q19 _ _ (by simp)))),q1b _ (q1b _ (q19 _ _ (by simp))),q1b _ (q19 _ _ (by simp)),q19 _ _ (by simp)⟩
theorem qao {W:World} {k o:Nat} {cs:Array Value} {t:TypeId} {fz:Nat×Nat} (h:W.heap[k]?=some (.cells cs t fz)):W.cell? ⟨k,o,none⟩=cs[o]?:=by simp [World.cell?,h]
theorem frz_at {W:World} {k:Nat} {cs:Array Value} {t:TypeId} (h:W.heap[k]?=some (.cells cs t (0,0))):W.frozen? ⟨k,0,none⟩=false:=by simp [World.frozen?,h]
set_option maxHeartbeats 4000000 in
set_option maxRecDepth 100000 in
theorem bod_in (b off c:Nat) (w:World) (hc:4<=c) (hcm:c<=maxLen) (hG:GW w)
  (h0:w.cell? ⟨b,off,none⟩=some (.int .u8 104)) (h1:w.cell? ⟨b,off+1,none⟩=some (.int .u8 105)) (h2:w.cell? ⟨b,off+2,none⟩=some (.int .u8 13)) (h3:w.cell? ⟨b,off+3,none⟩=some (.int .u8 10)) :
  CallsIn Fence.wide 6 Tryz.prog 82 #[.slice (some ⟨b,off,none⟩) 4 c] w λe w'=>∃ g c',e=.returned (.slice (some ⟨g,0,none⟩) 4 c')/\4<=c'/\c'<=maxLen/\w.heap.size<=g/\Bel w w' /\
   w'.cell? ⟨g,0,none⟩=some (.int .u8 104)/\w'.cell? ⟨g,1,none⟩=some (.int .u8 105)/\w'.cell? ⟨g,2,none⟩=some (.int .u8 13)/\w'.cell? ⟨g,3,none⟩=some (.int .u8 10):=by
 obtain ⟨mm,hml⟩:∃ mm,w.cell? ⟨0,0,none⟩=some (.int .i64 mm):=by have h:=hG;unfold GW at h;exact h.1
 have kc:=Lib.run_convert_bytes_const (P:=Tryz.prog) ((w.alloc (.cells #[.slice none 0 0] 26)).alloc (.cells #[.int .i64 0] 3)) 26 5 #[.int .u8 13,.int .u8 10] 2 2 Tryz.underlying26 Tryz.underlying5
 simp only [World.size_alloc] at kc
 refine callsIn_of_wp_marks Tryz.func82 rfl trivial ?_ rfl
 simp only [Tryz.ntmps82,List.size_toArray,x9q,x8q,Nat.reduceAdd,Nat.reduceSub,Array.replicate_succ,Array.replicate_zero,List.push_toArray,List.append_toArray,List.nil_append,List.cons_append]
 gi_wp2_with (first|(rw [kc];simp only [Result.andThen,Oper.uponIn_value])|skip;refine ⟨trivial,(callsIn_wide.2 (q181 _ _ _ _ _ _ _)).mono ?_⟩;rintro e w' ⟨rfl,rfl⟩)
 generalize hW0:spW _ _ _=W0
 have hs0:W0.heap.size=w.heap.size+6:=by rw [←hW0];simp [spW]
 have hb0:Bel w W0:=by rw [←hW0];exact ((((((Bel.refl w).alloc _).alloc _).alloc _).alloc _).alloc _).alloc _
 have s6:=six w (.cells #[.slice none 0 0] 26) (.cells #[.int .i64 0] 3) (.cells #[.int .u8 13,.int .u8 10] 5 (2,3)) (.cells #[.slice (some ⟨b,off,none⟩) 4 c] 26) (.cells #[.slice (some ⟨w.heap.size+1+1,0,none⟩) 2 2] 26) (.cells #[.int .i64 0] 3)
 unfold spW at hW0
 rw [hW0] at s6
 obtain ⟨b0,b1,b2,b3,b4,b5⟩:=s6
 clear hW0 kc
 refine qxf rfl (by decide) (gf:=157) (lb:=#[.pointer (some ⟨w.heap.size+1+1+1+1,0,none⟩),.pointer (some ⟨w.heap.size+1+1+1,0,none⟩),.pointer (some ⟨w.heap.size+1+1+1+2,0,none⟩)]) rfl trivial (enters_of Tryz.func157 (by kernel_rfl) rfl) ?_
 intro fn hfn
 generalize hW1:(W0.alloc (.deferred (some []))).alloc _=W1
 have hK:W1.heap[w.heap.size+6]?=some (.deferred (some [])):=by rw [←hW1];exact q1b _ (q19 _ _ hs0.symm)
 have hL:=q19 (W0.alloc (.deferred (some []))) _ (k:=w.heap.size+7) (by simp [hs0]) |> (λh=>(congrArg (λW:World=>W.heap[w.heap.size+7]?) hW1).symm.trans h)
 have hold:∀ k x,W0.heap[k]?=some x->W1.heap[k]?=some x:=λk x h=>by rw [←hW1];exact q1b _ (q1b _ h)
 have hb1:Bel w W1:=by rw [←hW1];exact (hb0.alloc _).alloc _
 replace b0:=hold _ _ b0
 replace b1:=hold _ _ b1
 replace b2:=hold _ _ b2
 replace b3:=hold _ _ b3
 replace b4:=hold _ _ b4
 replace b5:=hold _ _ b5
 clear hW1 hold hb0
 rw [hs0] at hL ⊢
 revert hL
 generalize hrec:recL fn _ _ _ _ _=rec
 intro hL
 have hI1:SpI W1 (w.heap.size+1+1+1+1) (w.heap.size+1+1+1) (w.heap.size+1+1+1+2) (w.heap.size+1+1) (.slice (some ⟨b,off,none⟩) 4 c) mm :=
  ⟨(qao b4).trans rfl,(qao b3).trans rfl,frz_at b3,(qao b5).trans rfl,(qao b2).trans rfl,(qao b2).trans rfl,by rw [hb1.cell _ (qar hml)];exact hml⟩
 have hBI:BoI W1 w (w.heap.size+7) (w.heap.size+6) (rec .ready none) (w.heap.size+1+1+1+1) (w.heap.size+1+1+1) (w.heap.size+1+1+1+2) (w.heap.size+1+1) w.heap.size (w.heap.size+1) (.slice (some ⟨b,off,none⟩) 4 c) mm (.slice none 0 0) 0 :=
  ⟨hL,hK,hI1,hb1,gwb hG hb1,(qao b0).trans rfl,frz_at b0,(qao b1).trans rfl,frz_at b1⟩
 have hold:∀ {o:Nat} {v:Value},w.cell? ⟨b,o,none⟩=some v->W1.cell? ⟨b,o,none⟩=some v:=λh=>by rw [hb1.cell _ (qar h)];exact h
 refine (q17v (w.heap.size+6+1) _ _ _ _ b off c mm W1 hc hcm hI1 (hold h0) (hold h1) (hold h2) (hold h3)
  (λW=>∃ q cap cs,BoI W w (w.heap.size+7) (w.heap.size+6) (rec .ready none) (w.heap.size+1+1+1+1) (w.heap.size+1+1+1) (w.heap.size+1+1+1+2) (w.heap.size+1+1) w.heap.size (w.heap.size+1) (.slice (some ⟨b,off,none⟩) 4 c) mm (.slice (some ⟨q,0,none⟩) 4 cap) 0/\w.heap.size+8<=q/\4<=cap/\cap<=maxLen/\W.heap[q]?=some (.cells cs 5) /\
   cs[0]?=some (.int .u8 104)/\cs[1]?=some (.int .u8 105)/\cs[2]?=some (.int .u8 13)/\cs[3]?=some (.int .u8 10))
  (λW=>∃ q cap cs a c',BoI W w (w.heap.size+7) (w.heap.size+6) (rec .ready none) (w.heap.size+1+1+1+1) (w.heap.size+1+1+1) (w.heap.size+1+1+1+2) (w.heap.size+1+1) w.heap.size (w.heap.size+1) (.slice (some a) 0 c') mm (.slice (some ⟨q,0,none⟩) 4 cap) 1/\w.heap.size+8<=q/\4<=cap/\cap<=maxLen/\W.heap[q]?=some (.cells cs 5) /\
   cs[0]?=some (.int .u8 104)/\cs[1]?=some (.int .u8 105)/\cs[2]?=some (.int .u8 13)/\cs[3]?=some (.int .u8 10))
  (λW h=>by obtain ⟨q,cap,cs,h,_⟩:=h;exact h.sp) ?_ ?_).mono ?_
 ·intro q m
  have hL':=hL
  rw [←hrec] at hL'
  refine q1ez trivial (show (W1.drewN q).heap[_]?=_ from hL') rfl ?_
  rw [hrec]
  gi_wp2_with (rw [Oper.semAt_eq _ _ _ (λc h=>by cases h)];go_simp;try go_bits)
  intro W2 hW2
  have hB:BoI W2 w (w.heap.size+7) (w.heap.size+6) (rec .busy none) (w.heap.size+1+1+1+1) (w.heap.size+1+1+1) (w.heap.size+1+1+1+2) (w.heap.size+1+1) w.heap.size (w.heap.size+1) (.slice (some ⟨b,off,none⟩) 4 c) mm (.slice none 0 0) 0:=by
   rw [hW2]
   exact (hBI.later ((Bel.refl W1).drewN q) hG).put hG (by omega) (by omega)
  clear hW2 hL'
  have e0:W2.cell? ⟨b,off,none⟩=some (.int .u8 104):=by rw [hB.bel.cell _ (qar h0)];exact h0
  have e1:W2.cell? ⟨b,off+1,none⟩=some (.int .u8 105):=by rw [hB.bel.cell _ (qar h1)];exact h1
  gi_wp2_with (first
   |(rw [qbj e0 e1];simp only [Result.andThen,Oper.uponIn_value])
   |(rw [Oper.semAt_eq _ _ _ (λc h=>by cases h)];go_simp;try go_bits))
  refine ⟨trivial,(λh=>by cases h),CallsIn.mono (show CallsIn (Fence.wide.inRound _) _ _ _ _ _ _ from callsIn_wide.2 (q91 sqz_hi _ hB.gw)) ?_⟩
  rintro e w2 ⟨rfl,hb2⟩
  replace hB:=hB.later hb2 hG
  have g1:=hB.out
  have g2:=hB.emp
  have g3:=hB.outf
  have g4:=hB.empf
  gi_wp2_with (rw [Oper.semAt_eq _ _ _ (λc h=>by cases h)];go_simp;try go_bits)
  clear g1 g2 g3 g4
  have hstr:((⟨#[]⟩++⟨#[104,105]⟩:BA)++⟨#[13,10]⟩)=⟨#[104,105,13,10]⟩:=rfl
  have hstr2:(⟨#[]⟩++⟨#[104,105]⟩:BA)=⟨#[104,105]⟩:=rfl
  have hstr3:(⟨#[104,105]⟩++⟨#[13,10]⟩:BA)=⟨#[104,105,13,10]⟩:=rfl
  have g0:w2.drew.cell? ⟨w.heap.size,0,none⟩=some (.slice none 0 0):=hB.out
  have g1:w2.drew.cell? ⟨w.heap.size+1,0,none⟩=some (.int .i64 0):=hB.emp
  have g2:w2.drew.frozen? ⟨w.heap.size,0,none⟩=false:=hB.outf
  have g3:w2.drew.frozen? ⟨w.heap.size+1,0,none⟩=false:=hB.empf
  have hmo:=mo_okY
  have hsem:∀ (l:Nat) (ρ:Operand->Value) (o:Oper),(∀ c,o.op≠.defer c)->Oper.semAt (some l) ρ o=execOp ρ o:=Oper.semAt_some
  have hfr:Fence.wide.fn 62:=trivial
  have hdp:Fence.wide.depth.isSome=false:=rfl
  gi_region_with_o (gi_at_call 62;refine (CallsIn.inRound _ (callsIn_wide.2 (qy2 _))).mono ?_;rintro e w3 ⟨rfl,hb3⟩;have hb4:=(Bel.refl w2).drew.trans hb3;have q0:=(hB.later hb4 hG).out;have q2:=(hB.later hb4 hG).outf;have q4:∀ X,(w3.alloc X).cell? ⟨w.heap.size,0,none⟩=some (.slice none 0 0):=λX=>(hB.later (hb4.alloc X) hG).out;have q5:∀ X,(w3.alloc X).frozen? ⟨w.heap.size,0,none⟩=false:=λX=>(hB.later (hb4.alloc X) hG).outf;have q6:∀ X,(w3.alloc X).drew.cell? ⟨w.heap.size,0,none⟩=some (.slice none 0 0):=λX=>(hB.later (hb4.alloc X) hG).out;have q7:∀ X,(w3.alloc X).drew.frozen? ⟨w.heap.size,0,none⟩=false:=λX=>(hB.later (hb4.alloc X) hG).outf)
  all_goals
   generalize hcap:(Question.appendCap 4 0 5).cut _=cap
   have hcap4:4<=cap:=by rw [←hcap];simp [Question.cut]
   have hcapm:cap<=maxLen:=by rw [←hcap];exact (cut_le 4 5).resolve_right (by decide)
   generalize hcs:(#[Value.int .u8 104,.int .u8 105,.int .u8 13,.int .u8 10]++Builtin.zeroCells _ _:Array Value)=cs
   have hc0:cs[0]?=some (.int .u8 104)/\cs[1]?=some (.int .u8 105)/\cs[2]?=some (.int .u8 13)/\cs[3]?=some (.int .u8 10):=by
    rw [←hcs]
    refine ⟨?_,?_,?_,?_⟩ <;> (rw [Array.getElem?_append_left (by simp)];rfl)
   have hlt3:=(Array.getElem?_eq_some_iff.1 (hB.later hb4 hG).lp).1
   have hB4:=(((hB.later (hb4.alloc (.cells cs 5)) hG).setO hG (.slice (some ⟨w3.heap.size,0,none⟩) 4 cap) (by omega) (by omega) (by omega) (by omega) (by omega) (by omega) (by omega)).later ((Bel.refl _).drew) hG)
   have hQ:((w3.alloc (.cells cs 5)).setCell ⟨w.heap.size,0,none⟩ (.slice (some ⟨w3.heap.size,0,none⟩) 4 cap)).drew.heap[w3.heap.size]?=some (.cells cs 5):=(Below.heap_setCell _ ⟨w.heap.size,0,none⟩ _ w3.heap.size (show w3.heap.size≠w.heap.size by omega)).trans (q19 _ _ rfl)
   generalize ((w3.alloc (.cells cs 5)).setCell ⟨w.heap.size,0,none⟩ (.slice (some ⟨w3.heap.size,0,none⟩) 4 cap)).drew=W4 at hB4 hQ
   clear q0 q2 q4 q5 q6 q7 hcap hcs
   have k1:=hB4.emp
   have k2:=hB4.empf
   gi_wp2_with (rw [Oper.semAt_eq _ _ _ (λc h=>by cases h)];go_simp;try go_bits)
   have hB5:=hB4.setE hG 0 (by omega) (by omega) (by omega) (by omega) (by omega) (by omega) (by omega)
   exact ⟨hB5.lp,rfl,w3.heap.size,cap,hB5.put hG (by omega) (by omega),by omega,hcap4,hcapm,cs,(World.putObj_heap_other (by omega)).trans ((Below.heap_setCell _ ⟨w.heap.size+1,0,none⟩ _ w3.heap.size (show w3.heap.size≠w.heap.size+1 by omega)).trans hQ),hc0.1,hc0.2.1,hc0.2.2.1,hc0.2.2.2⟩
 ·intro W q m a c' hJ
  obtain ⟨q0,cap,cs,hJB,h8,hc4,hcm4,hq,c0,c1,c2,c3⟩:=hJ
  have hS:=hJB.setS hG (.slice (some a) 0 c') (by omega) (by omega) (by omega) (by omega) (by omega) (by omega) (by omega)
  refine ⟨hS.sp,?_⟩
  have hL':=hS.lp
  rw [←hrec] at hL'
  refine q1ez trivial (show (World.drewN _ q).heap[_]?=_ from hL') rfl ?_
  rw [hrec]
  gi_wp2_with (rw [Oper.semAt_eq _ _ _ (λc h=>by cases h)];go_simp;try go_bits)
  intro W2 hW2
  have hB:BoI W2 w (w.heap.size+7) (w.heap.size+6) (rec .busy none) (w.heap.size+1+1+1+1) (w.heap.size+1+1+1) (w.heap.size+1+1+1+2) (w.heap.size+1+1) w.heap.size (w.heap.size+1) (.slice (some a) 0 c') mm (.slice (some ⟨q0,0,none⟩) 4 cap) 0:=by
   rw [hW2]
   exact (hS.later ((Bel.refl _).drewN q) hG).put hG (by omega) (by omega)
  have hQ2:W2.heap[q0]?=some (.cells cs 5):=by
   rw [hW2]
   exact (World.putObj_heap_other (by omega)).trans ((Below.heap_setCell _ ⟨w.heap.size+1+1+1,0,none⟩ _ q0 (show q0≠w.heap.size+1+1+1 by omega)).trans hq)
  clear hW2 hL' hS hJB hq
  gi_wp2_with (first
   |(rw [qbk a];simp only [Result.andThen,Oper.uponIn_value])
   |(rw [Oper.semAt_eq _ _ _ (λc h=>by cases h)];go_simp;try go_bits))
  refine ⟨trivial,(λh=>by cases h),CallsIn.mono (show CallsIn (Fence.wide.inRound _) _ _ _ _ _ _ from callsIn_wide.2 (q91 sqz_no _ hB.gw)) ?_⟩
  rintro e w2 ⟨rfl,hb2⟩
  replace hB:=hB.later hb2 hG
  replace hQ2:=(hb2.block _ (Array.getElem?_eq_some_iff.1 hQ2).1).trans hQ2
  have g2:=hB.emp
  have g4:=hB.empf
  gi_wp2_with (rw [Oper.semAt_eq _ _ _ (λc h=>by cases h)];go_simp;try go_bits)
  have hB5:=hB.setE hG 1 (by omega) (by omega) (by omega) (by omega) (by omega) (by omega) (by omega)
  exact ⟨hB5.lp,rfl,q0,cap,⟨a,c',hB5.put hG (by omega) (by omega)⟩,h8,hc4,hcm4,cs,(World.putObj_heap_other (by omega)).trans ((Below.heap_setCell _ ⟨w.heap.size+1,0,none⟩ _ q0 (show q0≠w.heap.size+1 by omega)).trans hQ2),c0,c1,c2,c3⟩
 ·rintro e W3 ⟨⟨v,rfl⟩,q,cap,cs,a,c',hB,h8,hc4,hcm4,hq,c0,c1,c2,c3⟩
  have hend:(Instr.endLoop (w.heap.size+6+1)).run Tryz.prog W3=.ok none (W3.putObj (w.heap.size+6+1) (.loop { rec .ready none with state:=.exhausted })):=by
   have h:=run_endLoop (P:=Tryz.prog) hB.lp (by rw [←hrec];simp [recL])
   rw [show w.heap.size+7=w.heap.size+6+1 from rfl] at h
   have hp:(rec .ready none).pending=none:=by rw [←hrec];rfl
   rw [h]
   show Result.ok (rec .ready none).pending _=_
   rw [hp]
   first|done|rfl|(simp only [hp];done)
  have hB4:BoI (W3.putObj (w.heap.size+6+1) (.loop { rec .ready none with state:=.exhausted })) w (w.heap.size+7) (w.heap.size+6) { rec .ready none with state:=.exhausted } _ _ _ _ _ _ _ mm _ 1:=hB.put hG (by omega) (by omega)
  have hQ4:(W3.putObj (w.heap.size+6+1) (.loop { rec .ready none with state:=.exhausted })).heap[q]?=some (.cells cs 5):=(World.putObj_heap_other (by omega)).trans hq
  generalize W3.putObj (w.heap.size+6+1) (.loop { rec .ready none with state:=.exhausted })=W4 at hend hB4 hQ4
  refine ⟨none,W4,hend,?_⟩
  have k1:=hB4.out
  have k2:=hB4.dd
  simp only
  gi_wp2
  have hD:(W4.putObj (w.heap.size+6) (.deferred none)).heap[q]?=some (.cells cs 5):=(World.putObj_heap_other (by omega)).trans hQ4
  have hbel:Bel w (W4.putObj (w.heap.size+6) (.deferred none)):=⟨hB4.bel.os,hB4.bel.tape,hB4.bel.output,by simpa using hB4.bel.size,λk hk=>(World.putObj_heap_other (by omega)).trans (hB4.bel.block k hk)⟩
  refine ⟨by simp,.inl ⟨_,_,rfl,run_takeDeferred k2,?_⟩⟩
  exact ⟨_,results_tmp rfl _ _ _,q,cap,rfl,hc4,hcm4,by omega,hbel,(qao hD).trans c0,(qao hD).trans c1,(qao hD).trans c2,(qao hD).trans c3⟩
theorem qop {es:List (List C)} (h:isHi es=true):es=[[.int .u8 104],[.int .u8 105],[.int .u8 13],[.int .u8 10]]:=by
 unfold isHi at h
 split at h
 ·simp only [x6q,beq_iff_eq] at h
  obtain ⟨rfl,rfl,rfl,rfl⟩:=h
  rfl
 ·cases h
theorem q7x {es r:List (List C)} (h:bodP es=some r):CallOk Tryz.prog 82 [.c (.sl es)] (.c (.sl r),[]):=by
 unfold bodP at h
 cases hh:isHi es with
 |false =>
  rw [hh,cond_false] at h
  unfold bodG at h
  split at h
  case isFalse=>cases h
  rename_i hex
  injection h with h
  subst h
  exact (Classical.choose_spec hex).2
 |true =>
 rw [hh,x22q] at h
 injection h with h
 subst h
 have hes:=qop hh
 subst hes
 refine ⟨rfl,(λb hb=>by cases hb),λw Z Y cargs hG hZ hY hs hr=>?_⟩
 have hs1:cargs.size=1:=hs
 obtain ⟨u,hu⟩:∃ u,cargs[0]?=some u:=⟨cargs[0]'(by omega),Array.getElem?_eq_getElem _⟩
 have r0:=hr 0 u _ hu rfl
 obtain rfl:cargs=#[u]:=by
  apply Array.ext (by simpa using hs1)
  intro i h1 h2
  have:i=0:=by simp at h2;omega
  subst this
  rw [Array.getElem?_eq_getElem h1] at hu
  injection hu
 cases r0 with
 |c r0 =>
 cases r0 with
 |sl A n c k b off U _ hl hc hm hk hA hz hr' hN =>
  have hn:n=4:=hl.symm
  subst hn
  have hk1:k=1:=(hk [.int .u8 104] (by simp)).symm
  subst hk1
  have hA':=hA (by simp)
  subst hA'
  have cellk:∀ (i:Nat) (x:Int),([[C.int .u8 104],[.int .u8 105],[.int .u8 13],[.int .u8 10]]:List (List C))[i]?=some [.int .u8 x]->w.cell? ⟨b,off+i,none⟩=some (.int .u8 x):=λi x hi=>by
   have z:=hZ _ _ _ (hz i _ 0 _ hi rfl)
   have r1:=hr' i _ 0 _ hi rfl
   rw [Nat.mul_one,Nat.add_zero] at z r1
   generalize U i=v at z r1
   cases r1
   exact z
  refine (callsIn_wide.1 (bod_in b off c w hc hm hG (cellk 0 _ rfl) (cellk 1 _ rfl) (cellk 2 _ rfl) (cellk 3 _ rfl))).mono ?_
  rintro e w' ⟨g,c',rfl,h4,hcm,hg,hb,c0,c1,c2,c3⟩
  let Z':ZMap:=λb' o=>if b'=g then w'.cell? ⟨g,o,none⟩ else Z b' o
  have hzg:∀ b' o u,Z b' o=some u->b'≠g:=λb' o u h e=>by
   have:=qar (hZ _ _ _ h)
   omega
  have hup:ZUp (wb w) Z Z':=⟨λb' o u h=>by simp [Z',hzg b' o u h,h],λb' o u h=>by
   by_cases e:b'=g
   ·right;subst e;exact .inl hg
   ·left;simpa [Z',e] using h⟩
  have hZ':∀ b' o u,Z' b' o=some u->w'.cell? ⟨b',o,none⟩=some u:=λb' o u h=>by
   by_cases e:b'=g
   ·subst e;simpa [Z'] using h
   ·have h1:Z b' o=some u:=by simpa [Z',e] using h
    have h2:=hZ _ _ _ h1
    rw [hb.cell _ (qar h2)];exact h2
  refine ⟨_,Z',λ_=>none,rfl,hup,⟨q1el.2 hb,⟨hG,GB.no⟩,hZ',(λ_ _ _ h=>by cases h),by simp,by simp,by simp,by simp,by simp⟩,.c ?_,λi h=>absurd rfl h⟩
  have hget:∀ (i:Nat) (e:List C) (j:Nat) (x:C),([[C.int .u8 104],[.int .u8 105],[.int .u8 13],[.int .u8 10]]:List (List C))[i]?=some e->e[j]?=some x->j=0/\∃ n:Int,x=.int .u8 n/\w'.cell? ⟨g,i,none⟩=some (.int .u8 n):=by
   intro i e j x he hx
   match i,j with
   |0,0=>simp at he;subst he;simp at hx;subst hx;exact ⟨rfl,_,rfl,c0⟩
   |1,0=>simp at he;subst he;simp at hx;subst hx;exact ⟨rfl,_,rfl,c1⟩
   |2,0=>simp at he;subst he;simp at hx;subst hx;exact ⟨rfl,_,rfl,c2⟩
   |3,0=>simp at he;subst he;simp at hx;subst hx;exact ⟨rfl,_,rfl,c3⟩
   |0,j+1=>simp at he;subst he;simp at hx
   |1,j+1=>simp at he;subst he;simp at hx
   |2,j+1=>simp at he;subst he;simp at hx
   |3,j+1=>simp at he;subst he;simp at hx
   |i+4,_=>simp at he
  refine .sl _ 4 c' 1 g 0 (λj=>(w'.cell? ⟨g,j,none⟩).getD undef) _ rfl h4 hcm (by simp) (λ_=>rfl) ?_ ?_ (by simp)
  ·intro i e j x he hx
   obtain ⟨rfl,n,rfl,hcl⟩:=hget i e j x he hx
   simp [Z',hcl]
  ·intro i e j x he hx
   obtain ⟨rfl,n,rfl,hcl⟩:=hget i e j x he hx
   simp only [Nat.mul_one,Nat.add_zero,hcl,Option.getD_some]
   exact .int _ _
end Go.Proofs.YtmlcmoaonaomfaaGreatDoor
namespace Go.Proofs.YtmlcmoaonaomfaaGreatDoor
open Go.RowKit
def U8 (xs:List Int):Prop:=∀ x∈xs,0<=x/\x<256
theorem U8.take {xs:List Int} (h:U8 xs) (k:Nat):U8 (xs.take k):=λx hx=>h x (List.mem_of_mem_take hx)
theorem U8.drop {xs:List Int} (h:U8 xs) (k:Nat):U8 (xs.drop k):=λx hx=>h x (List.mem_of_mem_drop hx)
def Sl8 (W:World) (v:Value) (xs:List Int):Prop:=∃ A c,v=.slice A xs.length c/\xs.length<=c/\c<=maxLen/\(A=none->c=0) /\
 ∀ a,A=some a->∀ (i:Nat) (x:Int),xs[i]?=some x->W.cell? (a.add i)=some (.int .u8 x)
theorem Sl8.bel {W W':World} {v:Value} {xs:List Int} (h:Sl8 W v xs) (hb:Bel W W'):Sl8 W' v xs:=by
 obtain ⟨A,c,e,h1,h2,h3,h4⟩:=h
 refine ⟨A,c,e,h1,h2,h3,λa ha i x hx=>?_⟩
 have:=h4 a ha i x hx
 rw [World.cell?_of_block (hb.block _ (World.block_lt_of_cell? W _ this))]
 exact this
def cut2 (xs:List Int):Int:=Lib.index (Lib.bytesOf xs) (Lib.bytesOf [13,10])
theorem q8m (xs:List Int):(Lib.bytesOf xs).length=xs.length:=by simp [Lib.bytesOf]
theorem qbr {xs:List Int} (h:0<=cut2 xs):cut2 xs+2<=xs.length:=by
 have:=Lib.index_room (Lib.bytesOf xs) (Lib.bytesOf [13,10]) h
 rw [q8m,q8m] at this
 unfold cut2
 simpa using this
theorem qbq (xs:List Int):-1<=cut2 xs:=Lib.index_ge _ _
def sub8 (v:Value) (k:Nat) (v':Value):Prop:=∃ A n c A',v=.slice A n c/\v'=.slice A' (n - k) (c - k)/\(c=k->A'=A)/\(c≠k->A'=A.map λx=>⟨x.block,x.off+k,none⟩)
theorem Sl8.sub {W:World} {v v':Value} {r:List Int} {k:Nat} (h:Sl8 W v r) (hs:sub8 v k v') (hk:1<=k) (hkr:k<=r.length):Sl8 W v' (r.drop k):=by
 obtain ⟨A,c,e,hc,hcm,hA,hcell⟩:=h
 obtain ⟨A0,n0,c0,A',e0,rfl,h1,h2⟩:=hs
 rw [e] at e0
 injection e0 with e1 e2 e3
 subst e1 e2 e3
 by_cases hck:c=k
 ·rw [h1 hck]
  have hd:r.drop k=[]:=List.eq_nil_of_length_eq_zero (by rw [List.length_drop];omega)
  refine ⟨A,c - k,by rw [List.length_drop],by rw [hd];simp,by omega,λ_=>by omega,λa ha i x hx=>?_⟩
  rw [hd] at hx
  simp at hx
 ·rw [h2 hck]
  refine ⟨_,c - k,by rw [List.length_drop],by rw [List.length_drop];omega,by omega,λh=>?_,λa ha i x hx=>?_⟩
  ·cases A with
   |none=>have:=hA rfl;omega
   |some a=>cases h
  ·cases A with
   |none=>cases ha
   |some a0 =>
    rw [x18q] at ha
    injection ha with ha
    subst ha
    rw [List.getElem?_drop] at hx
    have h1:=hcell a0 rfl (k+i) x hx
    have e1:a0.add (k+i)=⟨a0.block,a0.off+(k+i),none⟩:=by
     unfold Addr.add
     split
     ·omega
     ·rfl
    have e2:(⟨a0.block,a0.off+k,none⟩:Addr).add i=⟨a0.block,a0.off+(k+i),none⟩:=by
     rw [Lib.add_plain']
     congr 1
     omega
    rw [e1] at h1
    rw [e2]
    exact h1
theorem bix2 {mm:Nat} {v:Value} {xs:List Int} {g:Nat} {m:Int} {w:World} (h:Sl8 w v xs) (h8:U8 xs) (hs:xs.length<4294967281) (g0:w.cell? ⟨g,0,none⟩=some (.int .u8 13)) (g1:w.cell? ⟨g,1,none⟩=some (.int .u8 10)) (hm:w.cell? ⟨0,0,none⟩=some (.int .i64 m)) :
  CallsIn Fence.wide mm Tryz.prog 159 #[v,.slice (some ⟨g,0,none⟩) 2 2] w λe w'=>e=.returned (.int .i64 (cut2 xs))/\∃ q,w'=w.drewN q:=by
 obtain ⟨A,c,rfl,hc,hcm,hA,hcell⟩:=h
 cases A with
 |none =>
  have hx:xs=[]:=List.eq_nil_of_length_eq_zero (by have:=hA rfl;omega)
  subst hx
  have:=hA rfl
  subst this
  refine callsIn_wide.2 ((Any.bytes_Index_longer lays185 none (some ⟨g,0,none⟩) 0 0 2 2 w (by omega) (by omega) (by omega)).mono λe w' hq=>?_)
  exact ⟨hq.1,0,hq.2⟩
 |some a =>
  refine callsIn_wide.2 (Any.bytes_Index_at lays185 a ⟨g,0,none⟩ xs.length c 2 2 xs [13,10] m w rfl rfl h8 (by decide) (λi hi=>?_) (λi hi=>?_) hc hs (by omega) hm)
  ·rw [hcell a rfl i xs[i] (List.getElem?_eq_getElem hi)]
   simp [hi]
  ·match i,hi with
   |0,_=>simpa [Addr.add] using g0
   |1,_=>simpa [Addr.add] using g1
set_option maxHeartbeats 4000000 in
set_option maxRecDepth 100000 in
theorem q17u (l p1 p2 p3 g:Nat) (mm:Int) (xs0:List Int) (s0:Value) (W0:World)
  (J:List Int->Value->World->Prop) (hJ:∀ r s W,J r s W->SpI W p1 p2 p3 g s mm/\Sl8 W s r/\U8 r/\r.length<4294967281) (hq:∀ r s W q,J r s W->J r s (W.drewN q)) (h0:J xs0 s0 W0)
  (hy:∀ r s (k:Nat) v W m,J r s W->cut2 r=k->Sl8 W v (r.take k)->YieldAt Fence.wide m Tryz.prog l #[v] W λe W'=>e=.returned (.bool true)/\SpI W' p1 p2 p3 g s mm/\∀ s',sub8 s (k+2) s'->J (r.drop (k+2)) s' (W'.setCell ⟨p2,0,none⟩ s'))
  (JE:World->Prop) (hend:∀ r s v W m,J r s W->cut2 r=-1->Sl8 W v r->YieldAt Fence.wide m Tryz.prog l #[v] W λe W'=>e=.returned (.bool true)/\JE W') :
  CallsIn Fence.wide 5 Tryz.prog 157 #[.func (.yield l) #[] #[],.pointer (some ⟨p1,0,none⟩),.pointer (some ⟨p2,0,none⟩),.pointer (some ⟨p3,0,none⟩)] W0 λe W'=>(∃ v,e=.returned v)/\JE W':=by
 refine callsIn_of_wp Tryz.func157 rfl trivial ?_ rfl
 simp only [Tryz.ntmps157,List.size_toArray,x9q,x8q,Nat.reduceAdd,Nat.reduceSub,Array.replicate_succ,Array.replicate_zero,List.push_toArray,List.append_toArray,List.nil_append,List.cons_append]
 have i0:=(hJ _ _ _ h0).1.sep
 gi_wp2
 gi_loopg [] xs0.length (λgg wr=>∃ r s,J r s wr/\r.length<=gg)
 case atStart=>exact ⟨xs0,s0,h0,Nat.le_refl _⟩
 case round =>
  obtain ⟨r,s,hj,hg⟩:=hrel
  obtain ⟨hI,hS,h8,hn⟩:=hJ _ _ _ hj
  have l0:=hI.sep
  have l1:=hI.s
  have l2:=hI.sv
  have l3:=hI.fr
  have hix:=λmm'=>bix2 (mm:=mm') hS h8 hn hI.g0 hI.g1 hI.ml
  have hge:=qbq r
  have hroom:=qbr (xs:=r)
  obtain ⟨A,c,rfl,hc,hcm,hA,hcell⟩:=hS
  generalize hcut:cut2 r=m at hix hge hroom
  clear i0
  by_cases hm1:m=-1
  ·subst hm1
   have hY:=λq m'=>hend r _ (.slice A r.length r.length) (wr.drewN q) m' (hq _ _ _ q hj) hcut ⟨A,r.length,rfl,Nat.le_refl _,by omega,λh=>by have:=hA h;omega,hcell⟩
   have hJe:Aside True:=trivial
   clear hroom hge hcut hg hj hI h8 hn hcell hy
   gi_wp2_with (refine ⟨trivial,(hix _).mono ?_⟩;rintro e w' ⟨rfl,q,rfl⟩;obtain ⟨fn1,tm1,as1,bo1,hyr1,hR1⟩:=hY q 4)
   refine hR1.mono ?_
   rintro e W1 ⟨rfl,hj1⟩
   gi_wp2
   first|go_end0|go_ret|skip
   exact ⟨⟨_,rfl⟩,hj1⟩
  ·obtain ⟨k,rfl⟩:∃ k:Nat,m=k:=⟨m.toNat,by omega⟩
   have hk:k+2<=r.length:=by omega
   have hk0:¬ ((k:Int)<0):=by omega
   have hlt:(r.take k).length=k:=by rw [List.length_take];omega
   have hY:=λq m'=>hy r _ k (.slice A k k) (wr.drewN q) m' (hq _ _ _ q hj) hcut ⟨A,k,by rw [hlt],by rw [hlt];exact Nat.le_refl _,by omega,λh=>by have:=hA h;omega,λa ha i x hx=>hcell a ha i x (by
    have hi:i<k:=by rw [←hlt];exact (List.getElem?_eq_some_iff.1 hx).1
    rwa [List.getElem?_take,if_pos hi] at hx)⟩
   have hg':Aside (r.length<=gk):=hg
   have hkn:k+2<4294967281:=by omega
   clear hroom hge hcut hg hj hI h8 hy hend hq hJ h0
   gi_wp2_with (refine ⟨trivial,(hix _).mono ?_⟩;rintro e w' ⟨rfl,q,rfl⟩;obtain ⟨fn1,tm1,as1,bo1,hyr1,hR1⟩:=hY q 4)
   refine hR1.mono ?_
   rintro e W1 ⟨rfl,hI1,hj1⟩
   have k0:=hI1.sep
   have k1:=hI1.s
   have k2:=hI1.sv
   have k3:=hI1.fr
   have HJ:Aside (∀ s',sub8 (.slice A r.length c) (k+2) s'->J (r.drop (k+2)) s' (W1.setCell ⟨p2,0,none⟩ s')):=hj1
   clear hI1 hj1 hcell hY hR1 hyr1 l0 l1 l2 l3
   gi_wp2
   ·gi_roundg (r.length - (k+2))
    case measure=>have:=hg'.out;omega
    case rel=>exact ⟨r.drop (k+2),_,HJ.out (.slice A (r.length - (k+2)) 0) ⟨A,r.length,c,A,rfl,by rw [show c - (k+2)=0 by omega],λ_=>rfl,λh=>absurd (by omega) h⟩,by rw [List.length_drop];exact Nat.le_refl _⟩
   ·rename_i hck
    have hck':c≠k+2:=by omega
    gi_roundg (r.length - (k+2))
    case measure=>have:=hg'.out;omega
    case rel=>exact ⟨r.drop (k+2),_,HJ.out _ ⟨A,r.length,c,_,rfl,rfl,λh=>absurd h hck',λ_=>rfl⟩,by rw [List.length_drop];exact Nat.le_refl _⟩
end Go.Proofs.YtmlcmoaonaomfaaGreatDoor
