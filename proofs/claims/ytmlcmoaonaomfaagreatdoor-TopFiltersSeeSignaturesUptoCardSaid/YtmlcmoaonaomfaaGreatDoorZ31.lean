/- bytes.SplitSeq: the closure that it answers. -/
import Derived.Test.YtmlcmoaonaomfaaGreatDoorZ30
import Derived.Test.YtmlcmoaonaomfaaGreatDoorGB
import Derived.WalkKit
import Derived.RangeFuncRecord
import Derived.RangeFuncSeq
import Derived.TacticsIn
import Derived.BigFrameIn
import Derived.LoopNIn
import Derived.Shelf.Bytes.SlIndexWhole
import Derived.RangeFuncLeaves
namespace Go.Proofs.YtmlcmoaonaomfaaGreatDoor
open Go.RowKit
def spW (w:World) (u v:Value):World:=((w.alloc (.cells #[u] 26)).alloc (.cells #[v] 26)).alloc (.cells #[.int .i64 0] 3)
set_option maxRecDepth 100000 in
theorem q17w (A B:Oq Addr) (n c k d:Nat) (w:World):Calls Tryz.prog 136 #[.slice A n c,.slice B k d,.int .i64 0] w λe w' =>
  e=.returned (.func (.func 157) #[] #[.pointer (some ⟨w.heap.size+1,0,none⟩),.pointer (some ⟨w.heap.size,0,none⟩),.pointer (some ⟨w.heap.size+2,0,none⟩)])/\w'=spW w (.slice A n c) (.slice B k d):=by
 go_enter Tryz.func136,Tryz.ntmps136
 go_wp2
 go_ret
 first|exact ⟨rfl,rfl⟩|skip
set_option maxRecDepth 100000 in
theorem q181 (A B:Oq Addr) (n c k d:Nat) (w:World):Calls Tryz.prog 115 #[.slice A n c,.slice B k d] w λe w' =>
  e=.returned (.func (.func 157) #[] #[.pointer (some ⟨w.heap.size+1,0,none⟩),.pointer (some ⟨w.heap.size,0,none⟩),.pointer (some ⟨w.heap.size+2,0,none⟩)])/\w'=spW w (.slice A n c) (.slice B k d):=by
 go_enter Tryz.func115,Tryz.ntmps115
 go_wp2_with (go_at_call 136;refine (q17w A B n c k d _).mono ?_;rintro e w' ⟨rfl,rfl⟩)
 go_ret
 first|exact ⟨rfl,rfl⟩|skip
end Go.Proofs.YtmlcmoaonaomfaaGreatDoor
namespace Go.Proofs.YtmlcmoaonaomfaaGreatDoor
open Go.RowKit
theorem q7q {mm:Nat} (a1 a2:Addr) (n c1 k c2:Nat) (xs ys:List Int) (m:Int) (w:World) (hx:xs.length=n) (hy:ys.length=k) (hr1:∀ x∈xs,0<=x/\x<256) (hr2:∀ y∈ys,0<=y/\y<256)
  (hc1:∀ i,i<n->w.cell? (a1.add i)=some (.int .u8 (xs.getD i 0))) (hc2:∀ i,i<k->w.cell? (a2.add i)=some (.int .u8 (ys.getD i 0))) (hcap:n<=c1) (hs:n<4294967281) (hk:k<=9223372036854775807) (hm:w.cell? ⟨0,0,none⟩=some (.int .i64 m)) :
  CallsIn Fence.wide mm Tryz.prog 159 #[.slice (some a1) n c1,.slice (some a2) k c2] w λe w'=>e=.returned (.int .i64 (Lib.index (Lib.bytesOf xs) (Lib.bytesOf ys)))/\∃ q,w'=w.drewN q :=
 callsIn_wide.2 (Any.bytes_Index_at lays185 a1 a2 n c1 k c2 xs ys m w hx hy hr1 hr2 hc1 hc2 hcap hs hk hm)
structure SpI (W:World) (p1 p2 p3 g:Nat) (s:Value) (m:Int):Prop where
 sep:W.cell? ⟨p1,0,none⟩=some (.slice (some ⟨g,0,none⟩) 2 2)
 s:W.cell? ⟨p2,0,none⟩=some s
 fr:W.frozen? ⟨p2,0,none⟩=false
 sv:W.cell? ⟨p3,0,none⟩=some (.int .i64 0)
 g0:W.cell? ⟨g,0,none⟩=some (.int .u8 13)
 g1:W.cell? ⟨g,1,none⟩=some (.int .u8 10)
 ml:W.cell? ⟨0,0,none⟩=some (.int .i64 m)
set_option maxHeartbeats 4000000 in
set_option maxRecDepth 100000 in
theorem q17v (l p1 p2 p3 g b off c:Nat) (mm:Int) (W0:World) (hc:4<=c) (hcm:c<=maxLen) (h:SpI W0 p1 p2 p3 g (.slice (some ⟨b,off,none⟩) 4 c) mm)
  (h0:W0.cell? ⟨b,off,none⟩=some (.int .u8 104)) (h1:W0.cell? ⟨b,off+1,none⟩=some (.int .u8 105)) (h2:W0.cell? ⟨b,off+2,none⟩=some (.int .u8 13)) (h3:W0.cell? ⟨b,off+3,none⟩=some (.int .u8 10))
  (J1 J2:World->Prop) (hJ1:∀ W,J1 W->SpI W p1 p2 p3 g (.slice (some ⟨b,off,none⟩) 4 c) mm)
  (hy1:∀ q m,YieldAt Fence.wide m Tryz.prog l #[.slice (some ⟨b,off,none⟩) 2 2] (W0.drewN q) λe W'=>e=.returned (.bool true)/\J1 W')
  (hy2:∀ W q m a c',J1 W->SpI (W.setCell ⟨p2,0,none⟩ (.slice (some a) 0 c')) p1 p2 p3 g (.slice (some a) 0 c') mm/\YieldAt Fence.wide m Tryz.prog l #[.slice (some a) 0 0] ((W.setCell ⟨p2,0,none⟩ (.slice (some a) 0 c')).drewN q) λe W'=>e=.returned (.bool true)/\J2 W') :
  CallsIn Fence.wide 5 Tryz.prog 157 #[.func (.yield l) #[] #[],.pointer (some ⟨p1,0,none⟩),.pointer (some ⟨p2,0,none⟩),.pointer (some ⟨p3,0,none⟩)] W0 λe W'=>(∃ v,e=.returned v)/\J2 W':=by
 have i0:=h.sep;have i1:=h.s;have i2:=h.sv
 refine callsIn_of_wp Tryz.func157 rfl trivial ?_ rfl
 simp only [Tryz.ntmps157,List.size_toArray,x9q,x8q,Nat.reduceAdd,Nat.reduceSub,Array.replicate_succ,Array.replicate_zero,List.push_toArray,List.append_toArray,List.nil_append,List.cons_append]
 have hix:∀ mm',CallsIn Fence.wide mm' Tryz.prog 159 #[.slice (some ⟨b,off,none⟩) 4 c,.slice (some ⟨g,0,none⟩) 2 2] W0 λe w'=>e=.returned (.int .i64 2)/\∃ q,w'=W0.drewN q:=λmm' =>
  (q7q ⟨b,off,none⟩ ⟨g,0,none⟩ 4 c 2 2 [104,105,13,10] [13,10] mm W0 rfl rfl (by decide) (by decide) (λi hi=>by
   match i,hi with
   |0,_=>simpa [Addr.add] using h0
   |1,_=>simpa [Addr.add] using h1
   |2,_=>simpa [Addr.add] using h2
   |3,_=>simpa [Addr.add] using h3) (λi hi=>by
   match i,hi with
   |0,_=>simpa [Addr.add] using h.g0
   |1,_=>simpa [Addr.add] using h.g1) hc (by decide) (by decide) h.ml).mono λe w' he=>⟨he.1,he.2⟩
 gi_wp2
 refine wpIn_loop_rounds 2 ?_
 rw [roundsIn_succ]
 gi_wp2_with (refine ⟨trivial,(hix _).mono ?_⟩;rintro e w' ⟨rfl,q,rfl⟩;obtain ⟨fn1,tm1,as1,bo1,hyr1,hR1⟩:=hy1 q 4)
 refine hR1.mono ?_
 rintro e W1 ⟨rfl,hj1⟩
 have k0:=(hJ1 _ hj1).sep
 have k1:=(hJ1 _ hj1).s
 have k2:=(hJ1 _ hj1).sv
 have k3:=(hJ1 _ hj1).fr
 gi_wp2
 all_goals
  rw [roundsIn_succ]
  generalize hW2:W1.setCell _ _=W2
  have hh:∀ a c',W1.setCell ⟨p2,0,none⟩ (.slice (some a) 0 c')=W2->SpI W2 p1 p2 p3 g (.slice (some a) 0 c') mm/\∀ q m,YieldAt Fence.wide m Tryz.prog l #[.slice (some a) 0 0] (W2.drewN q) λe W'=>e=.returned (.bool true)/\J2 W':=by
   rintro a c' rfl
   exact ⟨(hy2 W1 0 0 a c' hj1).1,λq m=>(hy2 W1 q m a c' hj1).2⟩
  obtain ⟨hI2,hY2⟩:=hh _ _ hW2
  clear hh
  have l0:=hI2.sep;have l1:=hI2.s;have l2:=hI2.sv
  have hix2:∀ mm' a c',CallsIn Fence.wide mm' Tryz.prog 159 #[.slice (some a) 0 c',.slice (some ⟨g,0,none⟩) 2 2] W2 λe w'=>e=.returned (.int .i64 (-1))/\∃ q,w'=W2.drewN q:=λmm' a c' =>
   (q7q a ⟨g,0,none⟩ 0 c' 2 2 [] [13,10] mm W2 rfl rfl (by decide) (by decide) (λi hi=>by omega) (λi hi=>by
    match i,hi with
    |0,_=>simpa [Addr.add] using hI2.g0
    |1,_=>simpa [Addr.add] using hI2.g1) (by omega) (by decide) (by decide) hI2.ml).mono λe w' he=>⟨he.1,he.2⟩
  clear hI2 hy2 hW2
  gi_wp2_with (refine ⟨trivial,(hix2 _ _ _).mono ?_⟩;rintro e w' ⟨rfl,q2,rfl⟩;obtain ⟨fn2,tm2,as2,bo2,hyr2,hR2⟩:=hY2 q2 4)
  refine hR2.mono ?_
  rintro e W3 ⟨rfl,hj2⟩
  gi_wp2
  first|go_end0|go_ret|skip
  exact ⟨⟨_,rfl⟩,hj2⟩
variable {F:Fence} {n:Nat} {P:Program}
def recL (fn:FuncId) (tmps:Array Value) (ps:Array Tmp) (assign body:Code) (D:Nat) (st:LoopState) (pe:Oq Code):Loop :=
 { state:=st,pending:=pe,fn,tmps,params:=ps,assign,body,defers:=D }
theorem qxf {g:Operand} {ps:Array Tmp} {assign body:Code} {Q:Exit->Act->World->Prop} {a:Act} {w:World} (hro:F.round=none) (h1:1<=n) {gf:Nat} {lb:Array Value}
  (hg:a.eval g=.func (.func gf) #[] lb) (hFg:F.fn gf) (eg:∀ args w,(callFunc gf args).run P w=.ok (.enter gf args) w)
  (h:∀ fn,F.fn fn->CallsIn F (n - 1) P gf ((#[Value.func (Fn.yield (w.heap.size+1)) #[] #[]]:Array Value)++lb) ((w.alloc (.deferred (some []))).alloc (.loop (recL fn a.tmps ps assign body w.heap.size .ready none)))
   (rangePost F n P (w.heap.size+1) Q { a with defers:=[{ target:=.collected w.heap.size,args:=#[] }]++a.defers })) :
  (Code.rangeFunc g ps assign body).wpIn F n P Q a w:=by
 refine wpIn_rangeFunc ?_
 intro fn hfn
 rw [hro]
 have h2:=h fn hfn
 obtain ⟨W1,hW1⟩:∃ W1,W1=(w.alloc (.deferred (some []))).alloc (.loop (recL fn a.tmps ps assign body w.heap.size .ready none)):=⟨_,rfl⟩
 rw [←hW1] at h2
 refine ⟨w.heap.size+1,[{ target:=.collected w.heap.size,args:=#[] }],W1,{ target:=.fn (.func gf) lb,args:=#[.func (.yield (w.heap.size+1)) #[] #[]] },W1,gf,
  #[.func (.yield (w.heap.size+1)) #[] #[]]++lb,W1,?_,?_,?_,?_,λ_=>h1,?_⟩
 ·rw [hW1];exact run_enterLoop_outer _ _ _ _ _
 ·simp only [resolve,hg]
  simp [go_sem]
 ·intro f' hf';simp [Target.leads] at hf';subst hf';exact hFg
 ·simp [invoke,go_sem,eg]
 ·exact h2
def rndPost (l:Nat) (rec:LoopState->Oq Code->Loop) (R:Ending->World->Prop):Exit->Act->World->Prop
 |.normal,_,w=>w.heap[l]?=some (.loop (rec .busy none))/\R (.returned (.bool true)) (w.putObj l (.loop (rec .ready none)))
 |.exit id,_,w=>w.heap[l]?=some (.loop (rec .busy none))/\R (.returned (.bool false)) (w.putObj l (.loop (rec .done (some (.exit id)))))
 |.ret,_,w=>w.heap[l]?=some (.loop (rec .busy none))/\R (.returned (.bool false)) (w.putObj l (.loop (rec .done (some .ret))))
 |_,_,_=>False
def AtW (W:World) (p:World->Prop):Prop:=∀ W2,W2=W->p W2
theorem q1ez {m l:Nat} {fn:FuncId} {tmps:Array Value} {ps:Array Tmp} {assign body:Code} {D:Nat} {args:Array Value} {W:World} {R:Ending->World->Prop} (hfn:F.fn fn)
  (hl:W.heap[l]?=some (.loop (recL fn tmps ps assign body D .ready none))) (hps:args.size=ps.size)
  (h:assign.wpIn (F.inRound l) m P (Exit.then (λa₁ w₁=>w₁=W/\AtW (W.putObj l (.loop (recL fn tmps ps assign body D .busy none))) λW2 =>
    body.wpIn (F.inRound l) m P (rndPost l (recL fn tmps ps assign body D) R) a₁ W2) (λ_ _ _=>False))
   { tmps:=(ps.zip args).foldl (λt (p,v)=>t.setIfInBounds p v) tmps,defers:=[] } W):YieldAt F m P l args W R:=by
 have hy:=run_yield (P:=P) (args:=args) hl hps
 refine ⟨fn,_,assign,body,hy,roundIn_of_wpIn hfn (wpIn_mono h ?_)⟩
 intro e a w hq
 cases e with
 |normal =>
  obtain ⟨h1,h2⟩:=hq
  subst h1
  refine ⟨_,run_beginRound hl rfl,wpIn_mono (h2 _ rfl) ?_⟩
  intro e2 a2 w2 hq2
  cases e2 with
  |normal=>exact ⟨_,_,run_endRound none hq2.1,hq2.2⟩
  |exit id=>exact ⟨_,_,run_endRound (some (.exit id)) hq2.1,hq2.2⟩
  |ret=>exact ⟨_,_,run_endRound (some .ret) hq2.1,hq2.2⟩
  |goto t=>exact hq2.elim
  |panic c=>exact hq2.elim
  |outgrown=>exact hq2.elim
 |exit id=>exact hq.elim
 |goto t=>exact hq.elim
 |ret=>exact hq.elim
 |panic c=>exact hq.elim
 |outgrown=>exact hq.elim
end Go.Proofs.YtmlcmoaonaomfaaGreatDoor
