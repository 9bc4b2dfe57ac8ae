/- strings.makeGenericReplacer, at the pairs of vacation.lines. -/
import Derived.Test.YtmacbkjehjbjeaaGreatDoorS9
namespace Go.Proofs.YtmacbkjehjbjeaaGreatDoor
open Go.RowKit
set_option maxRecDepth 100000
structure GenL (lo:Nat) (w:World) (N T n1 n2 n3:Nat):Prop where
 gen:Gen w N T n1 n2 n3
 lN:lo≤N
 lT:lo≤T
 l1:lo≤n1
 l2:lo≤n2
 l3:lo≤n3
structure GenM (w:World) (N:Nat) (z:Int) (f:Nat→Int):Prop where
 v0:w.cell? ⟨N,0,none⟩=some (.string ⟨#[]⟩)
 v1:w.cell? ⟨N,1,none⟩=some (.int .i64 0)
 v2:w.cell? ⟨N,2,none⟩=some (.string ⟨#[]⟩)
 v4:w.cell? ⟨N,4,none⟩=some (.slice none 0 0)
 v5:w.cell? ⟨N,5,none⟩=some (.int .i64 z)
 mp:∀ j,j<256→w.cell? ⟨N,6+j,none⟩=some (.int .u8 (f j))
 fr:∀ j,w.frozen? ⟨N,j,none⟩=false
theorem GenM.drew {w:World} {N:Nat} {z:Int} {f:Nat→Int} (h:GenM w N z f):GenM w.drew N z f:=by
 have ho:∀ a,w.drew.cell? a=w.cell? a:=fun a=>World.cell?_drew w a
 obtain ⟨v0,v1,v2,v4,v5,mp,fr⟩:=h
 exact ⟨(ho _).trans v0,(ho _).trans v1,(ho _).trans v2,(ho _).trans v4,(ho _).trans v5,fun j hj=>(ho _).trans (mp j hj),fr⟩
theorem GenM.set {w:World} {N:Nat} {z:Int} {f:Nat→Int} (h:GenM w N z f) (i o:Nat) (x:Int) (ho:o=6+i) (hi:i<256):GenM (w.setCell ⟨N,o,none⟩ (.int .u8 x)) N z (upd f i x):=by
 subst ho
 have hs:∀ k,k≠6+i→(w.setCell ⟨N,6+i,none⟩ (.int .u8 x)).cell? ⟨N,k,none⟩=w.cell? ⟨N,k,none⟩:=fun k hk=>World.cell?_setCell_other w ⟨N,6+i,none⟩ ⟨N,k,none⟩ _ (fun e=>by injection e with _ e;exact hk e.symm)
 obtain ⟨v0,v1,v2,v4,v5,mp,fr⟩:=h
 refine ⟨(hs _ (by omega)).trans v0,(hs _ (by omega)).trans v1,(hs _ (by omega)).trans v2,(hs _ (by omega)).trans v4,(hs _ (by omega)).trans v5,fun j hj=>?_,fun j=>?_⟩
 ·unfold upd
  split
  ·rename_i e;subst e;exact World.cell?_setCell_same w _ _ (mp j hj)
  ·exact (hs _ (by omega)).trans (mp j hj)
 ·have:=fr j;go_simp
theorem GenM.sum {w:World} {N:Nat} {z:Int} {f:Nat→Int} (h:GenM w N z f) (x:Int):GenM (w.setCell ⟨N,5,none⟩ (.int .i64 x)) N x f:=by
 have hs:∀ k,k≠5→(w.setCell ⟨N,5,none⟩ (.int .i64 x)).cell? ⟨N,k,none⟩=w.cell? ⟨N,k,none⟩:=fun k hk=>World.cell?_setCell_other w ⟨N,5,none⟩ ⟨N,k,none⟩ _ (fun e=>by injection e with _ e;exact hk e.symm)
 obtain ⟨v0,v1,v2,v4,v5,mp,fr⟩:=h
 refine ⟨(hs _ (by omega)).trans v0,(hs _ (by omega)).trans v1,(hs _ (by omega)).trans v2,(hs _ (by omega)).trans v4,World.cell?_setCell_same w _ _ v5,fun j hj=>(hs _ (by omega)).trans (mp j hj),fun j=>?_⟩
 have:=fr j;go_simp
theorem qg1 (w:World):GenM (w.alloc (.cells Tryz.zeroCells246 246)) w.heap.size 0 (fun _=>0):=by
 have h0:∀ j v,Tryz.zeroCells246[j]?=some v→(w.alloc (.cells Tryz.zeroCells246 246)).cell? ⟨w.heap.size,j,none⟩=some v:=fun j v h=>(World.cell?_alloc_new w Tryz.zeroCells246 246 j).trans h
 have hm:∀ j,j<256→Tryz.zeroCells246[6+j]?=some (.int .u8 0):=by
  have h:((List.range 256).all fun j=>match Tryz.zeroCells246[6+j]? with|some (.int .u8 0)=>true|_=>false)=true:=by kernel_rfl
  intro j hj
  have:=List.all_eq_true.1 h j (List.mem_range.2 hj)
  split at this
  ·assumption
  ·cases this
 exact ⟨h0 0 _ (by kernel_rfl),h0 1 _ (by kernel_rfl),h0 2 _ (by kernel_rfl),h0 4 _ (by kernel_rfl),h0 5 _ (by kernel_rfl),fun j hj=>h0 _ _ (hm j hj),fun j=>World.frozen?_alloc_at (w:=w) _ _ w.heap.size j rfl⟩
theorem GenM.congr {w:World} {N:Nat} {z:Int} {f g:Nat→Int} (h:GenM w N z f) (hfg:∀ j,j<256→f j=g j):GenM w N z g :=
 ⟨h.v0,h.v1,h.v2,h.v4,h.v5,fun j hj=>by rw [←hfg j hj];exact h.mp j hj,h.fr⟩
def arrV (f:Nat→Int):Value:=.agg ((List.range 256).map fun j=>Value.int .u8 (f j)).toArray
theorem qkk {w:World} {N:Nat} {z:Int} {f:Nat→Int} (h:GenM w N z f):(loadVar 214 ⟨N,6,none⟩).run Tryz.prog w=.ok (arrV f) w:=by
 have hl:(loadCells ⟨N,6,none⟩ 256).run Tryz.prog w=.ok ((List.range 256).map fun j=>Value.int .u8 (f j)).toArray w:=_root_.Go.run_loadCells w ⟨N,6,none⟩ 256 (fun j=>Value.int .u8 (f j)) (fun j hj=>by
  have hadd:(⟨N,6,none⟩:Addr).add j=⟨N,6+j,none⟩:=by unfold Addr.add;split <;> simp_all
  rw [hadd];exact h.mp j hj)
 have hagg:(isAgg 214).run Tryz.prog w=.ok true w:=Tryz.isAgg214 w
 simp [loadVar,Sem.run_bind,hagg,hl,arrV]
theorem qx8 {N:Nat} {z:Int} {f:Nat→Int} {ops:Array Oper} {rest:List Oper} {o:Oper} {a:Act} {w:World} {Q:Exit→Act→World→Prop} (h:GenM w N z f) (hgd:o.guard=none) (x:Operand) (ho:o.op=.load 214 x) (hx:a.eval x=.pointer (some ⟨N,6,none⟩))
  (hK:wpList Tryz.prog ops Q rest (a.put o.dst (arrV f)) w):wpList Tryz.prog ops Q (o::rest) a w :=
 wpList_plain hgd fun K hK'=>by
  unfold Oper.wp execOp
  simp only [ho,hx,Instr.loadAt,Instr.sureAddr,Sem.run_bind,Sem.run_pure,Result.andThen_ok,qkk h]
  exact hK' _ _ hK
theorem qnj (cs:Array Value) (i:Nat) (v:Value) (h:cs[i]?=some v) (w:World):(part 5 cs i).run Tryz.prog w=.ok v w:=by
 simp only [part,Sem.run_bind,Tryz.isAgg5 w,Result.andThen_ok,Bool.false_eq_true,if_false,h]
 rfl
theorem q3l (f:Nat→Int) (i:Nat) (h:i<256):((List.range 256).map fun j=>Value.int .u8 (f j)).toArray[i]?=some (.int .u8 (f i)):=by
 rw [List.getElem?_toArray,List.getElem?_map,List.getElem?_range h]
 rfl
theorem ix_arr (f:Nat→Int) (i:Nat) (h:i<256) (w:World):(Instr.index 214 (arrV f) (.int .i64 i)).run Tryz.prog w=.ok (.int .u8 (f i)) w:=by
 have h1:(0:Int)≤i∧(i:Int)<(256:Nat):=by omega
 have hp:=q3l f i h
 unfold arrV
 generalize ((List.range 256).map fun j=>Value.int .u8 (f j)).toArray=cs at hp
 have hq:=qnj cs i _ hp w
 simp only [Instr.index,run_underlying Tryz.underlying214,asIntOf,Sem.run_bind,Sem.run_pure,Result.andThen_ok,if_pos h1,Tryz.sizeOf5 w,Int.toNat_natCast,Nat.mul_one,hq]
def cntM (i:Nat):Int:=if i≤10 then 0 else if i≤13 then 1 else 2
theorem qfl (S:Nat→Prop) (w:World):Frm S w w:=⟨rfl,rfl,rfl,Nat.le_refl _,fun _ _ _=>rfl⟩
def fM1 (j:Nat):Int:=if j=10∨j=13 then 1 else 0
theorem sumM (i:Nat):wrap64 (cntM i+wrap64 (fM1 i))=cntM (i+1):=by
 by_cases h1:i=10
 ·subst h1;simp [wrap64,cntM,fM1]
 ·by_cases h2:i=13
  ·subst h2;simp [wrap64,cntM,fM1]
  ·have e:fM1 i=0:=by unfold fM1;rw [if_neg (by omega)]
   rw [e]
   have e2:cntM (i+1)=cntM i:=by
    unfold cntM
    by_cases h3:i≤10
    ·rw [if_pos (by omega),if_pos h3]
    ·rw [if_neg (by omega),if_neg h3]
     by_cases h4:i≤13
     ·rw [if_pos (by omega),if_pos h4]
     ·rw [if_neg (by omega),if_neg h4]
   rw [e2]
   unfold cntM
   by_cases h3:i≤10
   ·rw [if_pos h3];simp [wrap64]
   ·rw [if_neg h3]
    by_cases h4:i≤13
    ·rw [if_pos h4];simp [wrap64]
    ·rw [if_neg h4];simp [wrap64]
def finM (j:Nat):Int:=if j=10 then 0 else if j=13 then 1 else 2
def midM (i j:Nat):Int:=if j<i then finM j else fM1 j
theorem qm8 (i:Nat) (x:Int) (hx:x=finM i):∀ j,j<256→upd (midM i) i x j=midM (i+1) j:=by
 intro j _
 unfold upd midM
 by_cases h:j=i
 ·subst h;rw [if_pos rfl,if_pos (by omega),hx]
 ·rw [if_neg h]
  by_cases h2:j<i
  ·rw [if_pos h2,if_pos (by omega)]
  ·rw [if_neg h2,if_neg (by omega)]
theorem q86 (i:Nat) (h1:i≠10) (h2:i≠13):cntM (i+1)=cntM i:=by
 unfold cntM
 by_cases h3:i≤10
 ·rw [if_pos (by omega),if_pos h3]
 ·rw [if_neg (by omega),if_neg h3]
  by_cases h4:i≤13
  ·rw [if_pos (by omega),if_pos h4]
  ·rw [if_neg (by omega),if_neg h4]
set_option maxHeartbeats 4000000 in
theorem qm7 (g c:Nat) (_hc:6≤c) (w:World)
  (hc0:w.cell? ⟨g,0,none⟩=some (.string ⟨#[13,10]⟩)) (hc1:w.cell? ⟨g,1,none⟩=some (.string ⟨#[13,10]⟩)) (hc2:w.cell? ⟨g,2,none⟩=some (.string ⟨#[13]⟩)) (hc3:w.cell? ⟨g,3,none⟩=some (.string ⟨#[13,10]⟩)) (hc4:w.cell? ⟨g,4,none⟩=some (.string ⟨#[10]⟩)) (hc5:w.cell? ⟨g,5,none⟩=some (.string ⟨#[13,10]⟩)) :
  Calls Tryz.prog 158 #[.slice (some ⟨g,0,none⟩) 6 c] w fun e w'=>∃ N T n1 n2 n3,e=.returned (.pointer (some ⟨N,0,none⟩))∧GenL w.heap.size w' N T n1 n2 n3∧Below w.heap.size w w':=by
 have hg:=q7s hc0
 have e13:∀ h,(((⟨#[13]⟩:ByteArray)[0]'h).toNat:Int)=13:=fun _=>rfl
 have e10:∀ h,(((⟨#[10]⟩:ByteArray)[0]'h).toNat:Int)=10:=fun _=>rfl
 have e130:∀ h,(((⟨#[13,10]⟩:ByteArray)[0]'h).toNat:Int)=13:=fun _=>rfl
 have e131:∀ h,(((⟨#[13,10]⟩:ByteArray)[1]'h).toNat:Int)=10:=fun _=>rfl
 have hN0:=qg1 w
 have hFr0:=qfj (fun k=>k=w.heap.size) w (.cells Tryz.zeroCells246 246)
 go_enter Tryz.func158,Tryz.ntmps158
 go_wp2
 have hold:∀ j v,w.cell? ⟨g,j,none⟩=some v→(w.alloc (.cells Tryz.zeroCells246 246)).cell? ⟨g,j,none⟩=some v:=fun j v h=>(World.cell?_alloc_past (w:=w) _ g j hg).trans h
 replace hc0:=hold _ _ hc0
 replace hc1:=hold _ _ hc1
 replace hc2:=hold _ _ hc2
 replace hc3:=hold _ _ hc3
 replace hc4:=hold _ _ hc4
 replace hc5:=hold _ _ hc5
 clear hold
 have hgN:g≠w.heap.size:=by omega
 have hNlt:w.heap.size<(w.alloc (.cells Tryz.zeroCells246 246)).heap.size:=by
  show w.heap.size<(w.heap.push _).size
  rw [Array.size_push];omega
 generalize hW0:w.alloc (.cells Tryz.zeroCells246 246)=W0 at hN0 hFr0 hc0 hc1 hc2 hc3 hc4 hc5 hNlt ⊢
 generalize hN:w.heap.size=N at hN0 hFr0 hgN hNlt ⊢
 obtain ⟨v0,v1,v2,v4,v5,mp,fr⟩:=id hN0
 have m13:=mp 13 (by decide)
 have m10:=mp 10 (by decide)
 clear hW0
 have hM1:GenM (((((((W0.setCell ⟨N,19,none⟩ (.int .u8 1)).setCell ⟨N,16,none⟩ (.int .u8 1)).setCell ⟨N,19,none⟩ (.int .u8 1)).setCell ⟨N,16,none⟩ (.int .u8 1)).drew).drew).drew).drew N 0 fM1:=((((((((hN0.set 13 19 1 rfl (by decide)).set 10 16 1 rfl (by decide)).set 13 19 1 rfl (by decide)).set 10 16 1 rfl (by decide)).drew).drew).drew).drew).congr fun j hj=>by
  unfold fM1 upd
  by_cases h1:j=10
  ·simp [h1]
  ·by_cases h2:j=13
   ·simp [h2]
   ·simp [h1,h2]
 refine wp_loop_rounds 4 ?_
 rw [rounds_succ]
 go_wp2
 refine wp_loop_rounds 3 ?_
 rw [rounds_succ]
 go_wp2
 go_region
 go_wp2
 rw [rounds_succ]
 go_wp2
 go_region
 go_wp2
 rw [rounds_succ]
 go_wp2
 rw [rounds_succ]
 go_wp2
 refine wp_loop_rounds 2 ?_
 rw [rounds_succ]
 go_wp2
 go_region
 go_wp2
 rw [rounds_succ]
 go_wp2
 rw [rounds_succ]
 go_wp2
 refine wp_loop_rounds 2 ?_
 rw [rounds_succ]
 go_wp2
 go_region
 go_wp2
 rw [rounds_succ]
 go_wp2
 rw [rounds_succ]
 go_wp2_with (refine qx8 hM1 rfl _ rfl rfl ?_)
 have hF1:Frm (fun k=>k=N) w ((((((((W0.setCell ⟨N,19,none⟩ (.int .u8 1)).setCell ⟨N,16,none⟩ (.int .u8 1)).setCell ⟨N,19,none⟩ (.int .u8 1)).setCell ⟨N,16,none⟩ (.int .u8 1)).drew).drew).drew).drew):=qfo hFr0 (qfo (qfo (qfo (qfo (qfo (qfo (qfo (qfm _ _ N 19 _ rfl) (qfm _ _ N 16 _ rfl)) (qfm _ _ N 19 _ rfl)) (qfm _ _ N 16 _ rfl)) (qfk _ _)) (qfk _ _)) (qfk _ _)) (qfk _ _))
 have hg1:((((((((W0.setCell ⟨N,19,none⟩ (.int .u8 1)).setCell ⟨N,16,none⟩ (.int .u8 1)).setCell ⟨N,19,none⟩ (.int .u8 1)).setCell ⟨N,16,none⟩ (.int .u8 1)).drew).drew).drew).drew).heap[g]?=W0.heap[g]?:=by
  show ((((W0.setCell ⟨N,19,none⟩ (.int .u8 1)).setCell ⟨N,16,none⟩ (.int .u8 1)).setCell ⟨N,19,none⟩ (.int .u8 1)).setCell ⟨N,16,none⟩ (.int .u8 1)).heap[g]?=_
  rw [Below.heap_setCell _ _ _ _ hgN,Below.heap_setCell _ _ _ _ hgN,Below.heap_setCell _ _ _ _ hgN,Below.heap_setCell _ _ _ _ hgN]
 have hs1:N<((((((((W0.setCell ⟨N,19,none⟩ (.int .u8 1)).setCell ⟨N,16,none⟩ (.int .u8 1)).setCell ⟨N,19,none⟩ (.int .u8 1)).setCell ⟨N,16,none⟩ (.int .u8 1)).drew).drew).drew).drew).heap.size:=by
  show N<((((W0.setCell ⟨N,19,none⟩ (.int .u8 1)).setCell ⟨N,16,none⟩ (.int .u8 1)).setCell ⟨N,19,none⟩ (.int .u8 1)).setCell ⟨N,16,none⟩ (.int .u8 1)).heap.size
  simp only [World.size_setCell]
  exact hNlt
 generalize ((((((((W0.setCell ⟨N,19,none⟩ (.int .u8 1)).setCell ⟨N,16,none⟩ (.int .u8 1)).setCell ⟨N,19,none⟩ (.int .u8 1)).setCell ⟨N,16,none⟩ (.int .u8 1)).drew).drew).drew).drew)=W1 at hM1 hF1 hg1 hs1 ⊢
 have hcg:∀ o,W1.cell? ⟨g,o,none⟩=W0.cell? ⟨g,o,none⟩:=fun o=>World.cell?_of_block (w:=W0) (a:=⟨g,o,none⟩) hg1
 replace hc0:=(hcg _).trans hc0
 replace hc1:=(hcg _).trans hc1
 replace hc2:=(hcg _).trans hc2
 replace hc3:=(hcg _).trans hc3
 replace hc4:=(hcg _).trans hc4
 replace hc5:=(hcg _).trans hc5
 clear hcg hg1 hN0 hFr0 hNlt v0 v1 v2 v4 v5 mp fr m13 m10
 go_loopw [41] (fun u41 wr=>∃ i:Nat,u41=.int .i64 i∧i≤256∧GenM wr N (cntM i) fM1∧Frm (fun k=>k=N) W1 wr) (fun u41 _=>256 - (vInt u41).toNat)
 case atStart=>exact ⟨0,rfl,by omega,hM1,qfl _ _⟩
 case round =>
  obtain ⟨i,rfl,hi,hM,hF⟩:=hrel
  obtain ⟨v0,v1,v2,v4,v5,mp,fr⟩:=id hM
  by_cases h1:i=256
  ·subst h1
   go_wp2_with (refine qx8 hM rfl _ rfl rfl ?_)
   clear v0 v1 v2 v4 v5 mp fr
   have hMa:GenM wr N 2 (midM 0):=hM.congr fun j _=>by unfold midM;rw [if_neg (by omega)]
   go_loopw [58,9] (fun u58 u9 w3=>∃ i:Nat,u58=.int .i64 i∧u9=.int .u8 (cntM i)∧i≤256∧GenM w3 N 2 (midM i)∧Frm (fun k=>k=N) wr w3) (fun u58 _ _=>256 - (vInt u58).toNat)
   case atStart=>exact ⟨0,rfl,rfl,by omega,hMa,qfl _ _⟩
   case round =>
    obtain ⟨i,rfl,rfl,hi,hM3,hF3⟩:=hrel
    obtain ⟨v0,v1,v2,v4,v5,mp,fr⟩:=id hM3
    by_cases h1:i=256
    ·subst h1
     have hmk:∀ w:World,(Instr.makeSlice 242 (.int .i64 2) (.int .i64 2)).run Tryz.prog w=.ok (.slice (some ⟨w.heap.size,0,none⟩) 2 2) (w.alloc (.cells #[.pointer none,.pointer none] 241)):=fun _=>by kernel_rfl
     have hlt3:=q7s v0
     go_wp2
     have hgW:=q7s hc0
     have hT1:N≠wr.heap.size:=by omega
     have hs4:∀ k,k≠4→(wr.setCell ⟨N,4,none⟩ (.slice (some ⟨wr.heap.size,0,none⟩) 2 2)).cell? ⟨N,k,none⟩=wr.cell? ⟨N,k,none⟩:=fun k hk=>World.cell?_setCell_other wr ⟨N,4,none⟩ ⟨N,k,none⟩ _ (fun e=>by injection e with _ e;exact hk e.symm)
     have hpa:∀ k,((wr.setCell ⟨N,4,none⟩ (.slice (some ⟨wr.heap.size,0,none⟩) 2 2)).alloc (.cells #[.pointer none,.pointer none] 241)).cell? ⟨N,k,none⟩=(wr.setCell ⟨N,4,none⟩ (.slice (some ⟨wr.heap.size,0,none⟩) 2 2)).cell? ⟨N,k,none⟩:=fun k=>World.cell?_alloc_past (w:=wr.setCell ⟨N,4,none⟩ _) _ N k (by rw [World.size_setCell];exact hlt3)
     have hX:Root ((wr.setCell ⟨N,4,none⟩ (.slice (some ⟨wr.heap.size,0,none⟩) 2 2)).alloc (.cells #[.pointer none,.pointer none] 241)) N wr.heap.size (.pointer none) (.pointer none):=by
      refine ⟨(hpa _).trans ((hs4 _ (by omega)).trans v0),(hpa _).trans ((hs4 _ (by omega)).trans v1),(hpa _).trans ((hs4 _ (by omega)).trans v2),(hpa _).trans (World.cell?_setCell_same wr _ _ v4),(hpa _).trans ((hs4 _ (by omega)).trans v5),fun j hj=>(hpa _).trans ((hs4 _ (by omega)).trans ((mp j hj).trans ?_)),?_,?_,fun j=>?_,hT1⟩
      ·unfold midM finM;rw [if_pos hj]
      ·exact (World.cell?_alloc_at (w:=wr.setCell ⟨N,4,none⟩ _) _ _ wr.heap.size 0 (by rw [World.size_setCell])).trans rfl
      ·exact (World.cell?_alloc_at (w:=wr.setCell ⟨N,4,none⟩ _) _ _ wr.heap.size 1 (by rw [World.size_setCell])).trans rfl
      ·exact World.frozen?_alloc_at (w:=wr.setCell ⟨N,4,none⟩ _) _ _ wr.heap.size j (by rw [World.size_setCell])
     have hFX:Frm (fun k=>k=N) W1 ((wr.setCell ⟨N,4,none⟩ (.slice (some ⟨wr.heap.size,0,none⟩) 2 2)).alloc (.cells #[.pointer none,.pointer none] 241)):=qfo hF (qfo hF3 (qfo (qfm _ _ N 4 _ rfl) (qfj _ _ _)))
     have hTl:w.heap.size≤wr.heap.size:=Nat.le_trans hF1.size (Nat.le_trans hF.size hF3.size)
     have hgT:g≠wr.heap.size:=by omega
     have hTX:wr.heap.size<((wr.setCell ⟨N,4,none⟩ (.slice (some ⟨wr.heap.size,0,none⟩) 2 2)).alloc (.cells #[.pointer none,.pointer none] 241)).heap.size:=by
      show wr.heap.size<((wr.setCell _ _).heap.push _).size
      rw [Array.size_push,World.size_setCell];omega
     generalize hTd:wr.heap.size=T at hX hFX hgT hTl hT1 hTX ⊢
     generalize (wr.setCell ⟨N,4,none⟩ (.slice (some ⟨T,0,none⟩) 2 2)).alloc (.cells #[.pointer none,.pointer none] 241)=X at hX hFX hTX ⊢
     have hgc:∀ o,X.cell? ⟨g,o,none⟩=W1.cell? ⟨g,o,none⟩:=fun o=>hFX.cell o hgW hgN
     replace hc0:=(hgc _).trans hc0
     replace hc1:=(hgc _).trans hc1
     replace hc2:=(hgc _).trans hc2
     replace hc3:=(hgc _).trans hc3
     replace hc4:=(hgc _).trans hc4
     replace hc5:=(hgc _).trans hc5
     have hgX:=q7s hc0
     have hw1:IntKind.i64.wrap 1=1:=by decide
     have hw2:IntKind.i64.wrap 2=2:=by decide
     have hw3:IntKind.i64.wrap 3=3:=by decide
     have hw4:IntKind.i64.wrap 4=4:=by decide
     have hw5:IntKind.i64.wrap 5=5:=by decide
     have hw6:IntKind.i64.wrap 6=6:=by decide
     clear hgc v0 v1 v2 v4 v5 mp fr hs4 hpa hM3 hMa hM hM1
     refine wp_loop_rounds 4 ?_
     rw [rounds_succ]
     go_wp2
     go_region_with (go_at_call 180;refine (qot N T _ (hX.same (by rfl) (by rfl))).mono ?_;rintro e w1 ⟨n1,n2,rfl,hR1,hA1,hA2,hl1,hl2,hne,hFa⟩)
     all_goals
      have hgcw1:∀ o,w1.cell? ⟨g,o,none⟩=X.cell? ⟨g,o,none⟩:=fun o=>hFa.cell o hgX hgT
      replace hc0:=(hgcw1 _).trans hc0
      replace hc1:=(hgcw1 _).trans hc1
      replace hc2:=(hgcw1 _).trans hc2
      replace hc3:=(hgcw1 _).trans hc3
      replace hc4:=(hgcw1 _).trans hc4
      replace hc5:=(hgcw1 _).trans hc5
      have hgw1:=q7s hc0
      clear hgcw1
      have hn1N:n1≠N:=by have:=q7s hX.v0;have:X.heap.size≤n1:=hl1;omega
      have hn1T:n1≠T:=by have:X.heap.size≤n1:=hl1;omega
      have hn1g:g≠n1:=by have:X.heap.size≤n1:=hl1;omega
      go_wp2
      rw [rounds_succ]
      go_wp2
      go_region_with (go_at_call 180;refine (qos N T n1 n2 _ (hR1.same (by rfl) (by rfl)) (hA1.same (by rfl)) hn1N hn1T).mono ?_;rintro e w2 ⟨rfl,hR2,hB1,hFb⟩)
      all_goals
       have hgcw2:∀ o,w2.cell? ⟨g,o,none⟩=w1.cell? ⟨g,o,none⟩:=fun o=>hFb.cell o hgw1 hn1g
       replace hc0:=(hgcw2 _).trans hc0
       replace hc1:=(hgcw2 _).trans hc1
       replace hc2:=(hgcw2 _).trans hc2
       replace hc3:=(hgcw2 _).trans hc3
       replace hc4:=(hgcw2 _).trans hc4
       replace hc5:=(hgcw2 _).trans hc5
       have hgw2:=q7s hc0
       clear hgcw2
       go_wp2
       rw [rounds_succ]
       go_wp2
       go_region_with (go_at_call 180;refine (qou N T _ _ (hR2.same (by rfl) (by rfl))).mono ?_;rintro e w4 ⟨n3,rfl,hR3,hC3,hl3,hFc⟩)
       all_goals
        go_wp2
        rw [rounds_succ]
        go_wp2
        go_ret
        have hl1':X.heap.size≤n1:=hl1
        have hl2':X.heap.size≤n2:=hl2
        have hsa:X.heap.size≤w1.heap.size:=hFa.size
        have hsb:w1.heap.size≤w2.heap.size:=hFb.size
        have hb1:n1<w2.heap.size:=q7s hB1.c0
        have hb2:n2<w1.heap.size:=q7s hA2.c0
        have k1:w4.heap[n1]?=w2.heap[n1]?:=hFc.block n1 hb1 hn1T
        have k2:w4.heap[n2]?=w2.heap[n2]?:=hFc.block n2 (Nat.lt_of_lt_of_le hb2 hsb) (by omega)
        have k3:w2.heap[n2]?=w1.heap[n2]?:=hFb.block n2 hb2 (Ne.symm hne)
        have h1:=hB1.same k1
        have h2:=(hA2.same k3).same k2
        have hsX:w.heap.size≤X.heap.size:=Nat.le_trans hF1.size hFX.size
        have hl3':w2.heap.size≤n3:=hl3
        refine ⟨N,T,n1,n2,n3,rfl,⟨⟨hR3.v0,hR3.v1,hR3.v2,hR3.v4,hR3.v5,hR3.mp,hR3.t0,hR3.t1,h1.c0,h1.c1,h1.c2,h1.c3,h1.c4,h2.c0,h2.c1,h2.c2,h2.c4,hC3.c0,hC3.c1,hC3.c2,hC3.c4⟩,Nat.le_of_eq hN,hTl,Nat.le_trans hsX hl1',Nat.le_trans hsX hl2',Nat.le_trans hsX (Nat.le_trans hsa (Nat.le_trans hsb hl3'))⟩,?_⟩
        refine ⟨(hFc.os.trans (hFb.os.trans (hFa.os.trans (hFX.os.trans hF1.os)))),(hFc.tape.trans (hFb.tape.trans (hFa.tape.trans (hFX.tape.trans hF1.tape)))),(hFc.output.trans (hFb.output.trans (hFa.output.trans (hFX.output.trans hF1.output)))),Nat.le_trans hsX (Nat.le_trans hsa (Nat.le_trans hsb hFc.size)),fun k hk=>?_⟩
        have hk0:k<W1.heap.size:=Nat.lt_of_lt_of_le hk hF1.size
        have hk1:k<X.heap.size:=Nat.lt_of_lt_of_le hk hsX
        have hk2:k<w1.heap.size:=Nat.lt_of_lt_of_le hk1 hsa
        have hk3:k<w2.heap.size:=Nat.lt_of_lt_of_le hk2 hsb
        have q1:w4.heap[k]?=w2.heap[k]?:=hFc.block k hk3 (by omega)
        have q2:w2.heap[k]?=w1.heap[k]?:=hFb.block k hk2 (by omega)
        have q3:w1.heap[k]?=X.heap[k]?:=hFa.block k hk1 (by omega)
        have q4:X.heap[k]?=W1.heap[k]?:=hFX.block k hk0 (by omega)
        have q5:W1.heap[k]?=w.heap[k]?:=hF1.block k hk (by omega)
        rw [q1,q2,q3,q4,q5]
    have hlt:i<256:=by omega
    have mi:=mp i hlt
    by_cases h10:i=10
    ·subst h10
     have hix:∀ w,(Instr.index 214 (arrV fM1) (.int .i64 10)).run Tryz.prog w=.ok (.int .u8 1) w:=ix_arr fM1 10 hlt
     rw [show cntM 10=0 from rfl]
     go_wp2
     refine ⟨⟨11,rfl,rfl,by omega,(hM3.set 10 16 0 rfl (by decide)).congr (qm8 10 0 rfl),qfo hF3 (qfm _ _ N 16 _ rfl)⟩,by simp [vInt]⟩
    by_cases h13:i=13
    ·subst h13
     have hix:∀ w,(Instr.index 214 (arrV fM1) (.int .i64 13)).run Tryz.prog w=.ok (.int .u8 1) w:=ix_arr fM1 13 hlt
     rw [show cntM 13=1 from rfl]
     go_wp2
     refine ⟨⟨14,rfl,rfl,by omega,(hM3.set 13 19 1 rfl (by decide)).congr (qm8 13 1 rfl),qfo hF3 (qfm _ _ N 19 _ rfl)⟩,by simp [vInt]⟩
    have hix:∀ w,(Instr.index 214 (arrV fM1) (.int .i64 (i:Int))).run Tryz.prog w=.ok (.int .u8 0) w:=fun w=>by rw [ix_arr fM1 i hlt];unfold fM1;rw [if_neg (by omega)]
    go_wp2
    go_region
    go_wp2
    refine ⟨⟨i+1,rfl,by rw [q86 i h10 h13],by omega,((hM3.set i (6+i) 2 rfl hlt).congr (qm8 i 2 (by unfold finM;rw [if_neg h10,if_neg h13]))).drew,qfo hF3 (qfo (qfm _ _ N (6+i) _ rfl) (qfk _ _))⟩,by simp [vInt];omega⟩
  have hlt:i<256:=by omega
  have hix:=ix_arr fM1 i hlt
  go_wp2
  rw [sumM]
  refine ⟨⟨i+1,rfl,by omega,hM.sum _,qfo hF (qfm _ _ N 5 _ rfl)⟩,by simp [vInt];omega⟩
end Go.Proofs.YtmacbkjehjbjeaaGreatDoor
