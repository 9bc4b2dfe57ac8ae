/- strings.trieNode.add, at the keys CR LF, CR, LF. -/
import Derived.Test.YtmacbkjehjbjeaaGreatDoorZ31
namespace Go.Proofs.YtmacbkjehjbjeaaGreatDoor
open Go.RowKit
set_option maxRecDepth 100000
theorem qfw {w w':World} {b o:Nat} (h:w'.heap[b]?=w.heap[b]?):w'.frozen? ⟨b,o,none⟩=w.frozen? ⟨b,o,none⟩:=by
 unfold World.frozen?
 simp only [h]
structure Node (w:World) (n:Nat) (v:ByteArray) (p:Int) (pre:ByteArray) (nx:Value):Prop where
 c0:w.cell? ⟨n,0,none⟩=some (.string v)
 c1:w.cell? ⟨n,1,none⟩=some (.int .i64 p)
 c2:w.cell? ⟨n,2,none⟩=some (.string pre)
 c3:w.cell? ⟨n,3,none⟩=some nx
 c4:w.cell? ⟨n,4,none⟩=some (.slice none 0 0)
 f:∀ j,w.frozen? ⟨n,j,none⟩=false
theorem Node.same {w w':World} {n:Nat} {v pre:ByteArray} {p:Int} {nx:Value} (h:Node w n v p pre nx) (hb:w'.heap[n]?=w.heap[n]?):Node w' n v p pre nx:=by
 have hc:∀ o,w'.cell? ⟨n,o,none⟩=w.cell? ⟨n,o,none⟩:=fun o=>World.cell?_of_block (w:=w) (a:=⟨n,o,none⟩) hb
 exact ⟨(hc _).trans h.c0,(hc _).trans h.c1,(hc _).trans h.c2,(hc _).trans h.c3,(hc _).trans h.c4,fun j=>(qfw hb).trans (h.f j)⟩
theorem qfm (S:Nat→Prop) (w:World) (b o:Nat) (v:Value) (h:S b):Frm S w (w.setCell ⟨b,o,none⟩ v) :=
 ⟨rfl,by simp,rfl,by simp,fun k _ hk=>Below.heap_setCell _ _ _ _ (fun e=>hk (by rw [e];exact h))⟩
theorem qfj (S:Nat→Prop) (w:World) (X:Obj):Frm S w (w.alloc X) :=
 ⟨rfl,by simp,rfl,by simp,fun k hk _=>Below.heap_alloc w X k hk⟩
theorem qfk (S:Nat→Prop) (w:World):Frm S w w.drew:=⟨rfl,rfl,rfl,Nat.le_refl _,fun _ _ _=>rfl⟩
theorem qfo {S:Nat→Prop} {a b c:World} (h:Frm S a b) (h':Frm S b c):Frm S a c:=Frm.trans h h' (fun _ h _=>h)
theorem newNode (W:World) (k:Nat) (h:k=W.heap.size):Node (W.alloc (.cells #[.string ⟨#[]⟩,.int .i64 0,.string ⟨#[]⟩,.pointer none,.slice none 0 0] 244)) k ⟨#[]⟩ 0 ⟨#[]⟩ (.pointer none):=by
 subst h
 refine ⟨?_,?_,?_,?_,?_,?_⟩
 ·go_simp
 ·go_simp
 ·go_simp
 ·go_simp
 ·go_simp
 ·intro j;go_simp
theorem Node.set {w:World} {n b o:Nat} {v pre:ByteArray} {p:Int} {nx u:Value} (h:Node w n v p pre nx) (hb:b≠n):Node (w.setCell ⟨b,o,none⟩ u) n v p pre nx:=h.same (Below.heap_setCell _ _ _ _ (Ne.symm hb))
theorem Node.drew {w:World} {n:Nat} {v pre:ByteArray} {p:Int} {nx:Value} (h:Node w n v p pre nx):Node w.drew n v p pre nx:=h.same rfl
set_option maxHeartbeats 1600000 in
theorem qp (n:Nat) (w:World) (v0 pre:ByteArray) (nx:Value) (h:Node w n v0 0 pre nx) (val:ByteArray) (p:Int) (r:Value) :
  Calls Tryz.prog 180 #[.pointer (some ⟨n,0,none⟩),.string ⟨#[]⟩,.string val,.int .i64 p,r] w fun e w'=>e=.returned (.tuple #[])∧Node w' n val p pre nx∧Frm (fun k=>k=n) w w':=by
 obtain ⟨c0,c1,c2,c3,c4,f⟩:=h
 go_enter Tryz.func180,Tryz.ntmps180
 go_wp2
 first|go_end0|(simp only [Exit.inBlock,Exit.then];refine bodyPost_ret (results_none rfl _ _ _) rfl ?_)|refine bodyPost_ret (results_none rfl _ _ _) rfl ?_
 refine ⟨rfl,⟨?_,?_,?_,?_,?_,?_⟩,qfo (qfm _ w n 0 _ rfl) (qfm _ _ n 1 _ rfl)⟩
 ·go_simp
 ·go_simp
 ·go_simp
 ·go_simp
 ·go_simp
 ·intro j;go_simp
set_option maxHeartbeats 1600000 in
theorem qq (n:Nat) (w:World) (v0:ByteArray) (q:Int) (nx:Value) (h:Node w n v0 q ⟨#[]⟩ nx) (val:ByteArray) (p:Int) (r:Value) :
  Calls Tryz.prog 180 #[.pointer (some ⟨n,0,none⟩),.string ⟨#[10]⟩,.string val,.int .i64 p,r] w fun e w'=>∃ n2,e=.returned (.tuple #[])∧Node w' n v0 q ⟨#[10]⟩ (.pointer (some ⟨n2,0,none⟩))∧Node w' n2 val p ⟨#[]⟩ (.pointer none)∧w.heap.size≤n2∧Frm (fun k=>k=n) w w':=by
 obtain ⟨c0,c1,c2,c3,c4,f⟩:=h
 have hn:=q7s c0
 have hz:Node (((w.setCell ⟨n,2,none⟩ (.string ⟨#[10]⟩)).setCell ⟨n,3,none⟩ (.pointer (some ⟨w.heap.size,0,none⟩))).alloc (.cells #[.string ⟨#[]⟩,.int .i64 0,.string ⟨#[]⟩,.pointer none,.slice none 0 0] 244)) w.heap.size ⟨#[]⟩ 0 ⟨#[]⟩ (.pointer none):=by
  refine ⟨?_,?_,?_,?_,?_,?_⟩
  ·go_simp
  ·go_simp
  ·go_simp
  ·go_simp
  ·go_simp
  ·intro j;go_simp
 have hy:Node (((w.setCell ⟨n,2,none⟩ (.string ⟨#[10]⟩)).setCell ⟨n,3,none⟩ (.pointer (some ⟨w.heap.size,0,none⟩))).alloc (.cells #[.string ⟨#[]⟩,.int .i64 0,.string ⟨#[]⟩,.pointer none,.slice none 0 0] 244)) n v0 q ⟨#[10]⟩ (.pointer (some ⟨w.heap.size,0,none⟩)):=by
  refine ⟨?_,?_,?_,?_,?_,?_⟩
  ·go_simp
  ·go_simp
  ·go_simp
  ·go_simp
  ·go_simp
  ·intro j;go_simp
 have hF0:=qfo (qfo (qfm (fun k=>k=n) w n 2 (.string ⟨#[10]⟩) rfl) (qfm (fun k=>k=n) _ n 3 (.pointer (some ⟨w.heap.size,0,none⟩)) rfl)) (qfj (fun k=>k=n) _ (.cells #[.string ⟨#[]⟩,.int .i64 0,.string ⟨#[]⟩,.pointer none,.slice none 0 0] 244))
 have hlt:=q7s hy.c0
 go_enter Tryz.func180,Tryz.ntmps180
 go_wp2_with (go_at_call 180;refine (qp w.heap.size _ _ _ _ hz val p r).mono ?_;rintro e w' ⟨rfl,hN,hF⟩)
 first|go_end0|(simp only [Exit.inBlock,Exit.then];refine bodyPost_ret (results_none rfl _ _ _) rfl ?_)|refine bodyPost_ret (results_none rfl _ _ _) rfl ?_
 refine ⟨w.heap.size,rfl,hy.same (hF.block n hlt (by omega)),hN,Nat.le_refl _,?_⟩
 refine ⟨hF.os.trans hF0.os,hF.tape.trans hF0.tape,hF.output.trans hF0.output,Nat.le_trans hF0.size hF.size,fun k hk hn'=>?_⟩
 exact (hF.block k (Nat.lt_of_lt_of_le hk hF0.size) (by omega)).trans (hF0.block k hk hn')
structure Root (w:World) (N T:Nat) (p0 p1:Value):Prop where
 v0:w.cell? ⟨N,0,none⟩=some (.string ⟨#[]⟩)
 v1:w.cell? ⟨N,1,none⟩=some (.int .i64 0)
 v2:w.cell? ⟨N,2,none⟩=some (.string ⟨#[]⟩)
 v4:w.cell? ⟨N,4,none⟩=some (.slice (some ⟨T,0,none⟩) 2 2)
 v5:w.cell? ⟨N,5,none⟩=some (.int .i64 2)
 mp:∀ j,j<256→w.cell? ⟨N,6+j,none⟩=some (.int .u8 (if j=10 then 0 else if j=13 then 1 else 2))
 t0:w.cell? ⟨T,0,none⟩=some p0
 t1:w.cell? ⟨T,1,none⟩=some p1
 f:∀ j,w.frozen? ⟨T,j,none⟩=false
 ne:N≠T
theorem Root.same {w w':World} {N T:Nat} {p0 p1:Value} (h:Root w N T p0 p1) (hN:w'.heap[N]?=w.heap[N]?) (hT:w'.heap[T]?=w.heap[T]?):Root w' N T p0 p1:=by
 have c1:∀ o,w'.cell? ⟨N,o,none⟩=w.cell? ⟨N,o,none⟩:=fun o=>World.cell?_of_block (w:=w) (a:=⟨N,o,none⟩) hN
 have c2:∀ o,w'.cell? ⟨T,o,none⟩=w.cell? ⟨T,o,none⟩:=fun o=>World.cell?_of_block (w:=w) (a:=⟨T,o,none⟩) hT
 exact ⟨(c1 _).trans h.v0,(c1 _).trans h.v1,(c1 _).trans h.v2,(c1 _).trans h.v4,(c1 _).trans h.v5,fun j hj=>(c1 _).trans (h.mp j hj),(c2 _).trans h.t0,(c2 _).trans h.t1,fun j=>(qfw hT).trans (h.f j),h.ne⟩
set_option maxHeartbeats 3200000 in
theorem qos (N T n1 n2:Nat) (w:World) (h:Root w N T (.pointer none) (.pointer (some ⟨n1,0,none⟩))) (hn:Node w n1 ⟨#[]⟩ 0 ⟨#[10]⟩ (.pointer (some ⟨n2,0,none⟩))) (h1:n1≠N) (h2:n1≠T) :
  Calls Tryz.prog 180 #[.pointer (some ⟨N,0,none⟩),.string ⟨#[13]⟩,.string ⟨#[13,10]⟩,.int .i64 4,.pointer (some ⟨N,0,none⟩)] w fun e w'=>e=.returned (.tuple #[])∧Root w' N T (.pointer none) (.pointer (some ⟨n1,0,none⟩))∧Node w' n1 ⟨#[13,10]⟩ 4 ⟨#[10]⟩ (.pointer (some ⟨n2,0,none⟩))∧Frm (fun k=>k=n1) w w':=by
 have hR:=h
 obtain ⟨v0,v1,v2,v4,v5,mp,t0,t1,f,ne⟩:=h
 have m13:=mp 13 (by decide)
 have e13:∀ h,(((⟨#[13]⟩:ByteArray)[0]'h).toNat:Int)=13:=fun _=>rfl
 have hnil:=fun (w:World) a l c=>Lib.run_eql_slice_nil (P:=Tryz.prog) w 242 241 a l c 0 0 Tryz.underlying242
 go_enter Tryz.func180,Tryz.ntmps180
 go_wp2
 go_quiet (fail)
 go_wp2
 go_region_with (go_at_call 180;refine (qp n1 _ _ _ _ (hn.same (by rfl)) _ _ _).mono ?_;rintro e w' ⟨rfl,hN,hF⟩)
 go_end0
 have hb:∀ k,k<w.heap.size→k≠n1→w'.heap[k]?=w.heap[k]?:=fun k hk hn'=>hF.block k hk hn'
 exact ⟨rfl,hR.same (hb N (q7s v0) (Ne.symm h1)) (hb T (q7s t0) (Ne.symm h2)),hN,⟨hF.os,hF.tape,hF.output,hF.size,hF.block⟩⟩
set_option maxHeartbeats 3200000 in
theorem qot (N T:Nat) (w:World) (h:Root w N T (.pointer none) (.pointer none)) :
  Calls Tryz.prog 180 #[.pointer (some ⟨N,0,none⟩),.string ⟨#[13,10]⟩,.string ⟨#[13,10]⟩,.int .i64 6,.pointer (some ⟨N,0,none⟩)] w fun e w'=>∃ n1 n2,e=.returned (.tuple #[])∧Root w' N T (.pointer none) (.pointer (some ⟨n1,0,none⟩))∧Node w' n1 ⟨#[]⟩ 0 ⟨#[10]⟩ (.pointer (some ⟨n2,0,none⟩))∧Node w' n2 ⟨#[13,10]⟩ 6 ⟨#[]⟩ (.pointer none)∧w.heap.size≤n1∧w.heap.size≤n2∧n1≠n2∧Frm (fun k=>k=T) w w':=by
 have hR:=h
 obtain ⟨v0,v1,v2,v4,v5,mp,t0,t1,f,ne⟩:=h
 have hT:=q7s t0
 have hNl:=q7s v0
 have m13:=mp 13 (by decide)
 have hA:∀ nq X j,((w.drewN nq).alloc X).frozen? ⟨T,j,none⟩=false:=fun nq X j=>by rw [World.frozen?_alloc_old (w.drewN nq) X ⟨T,j,none⟩ (show T≠w.heap.size by omega)];exact f j
 have hB:∀ nq X,((w.drewN nq).alloc X).cell? ⟨T,1,none⟩=some (.pointer none):=fun nq X=>(World.cell?_alloc_past (w:=w.drewN nq) X T 1 hT).trans t1
 have hC:∀ nq X,((w.drewN nq).alloc X).cell? ⟨N,4,none⟩=some (.slice (some ⟨T,0,none⟩) 2 2):=fun nq X=>(World.cell?_alloc_past (w:=w.drewN nq) X N 4 hNl).trans v4
 have e13:∀ h,(((⟨#[13,10]⟩:ByteArray)[0]'h).toNat:Int)=13:=fun _=>rfl
 have hnil:=fun (w:World) a l c=>Lib.run_eql_slice_nil (P:=Tryz.prog) w 242 241 a l c 0 0 Tryz.underlying242
 go_enter Tryz.func180,Tryz.ntmps180
 go_wp2
 go_quiet (fail)
 go_wp2
 go_region_with (go_at_call 180;refine (qq _ _ ⟨#[]⟩ 0 (.pointer none) (by apply Node.drew;apply Node.set _ (by omega);exact newNode _ _ rfl) _ _ _).mono ?_;rintro e w' ⟨n2,rfl,hN,hN2,hn2,hF⟩)
 go_end0
 have hF0:Frm (fun k=>k=T) w ((((w.drewN nq).alloc (.cells #[.string ⟨#[]⟩,.int .i64 0,.string ⟨#[]⟩,.pointer none,.slice none 0 0] 244)).setCell ⟨T,1,none⟩ (.pointer (some ⟨w.heap.size,0,none⟩))).drew):=qfo (qfo (qfo (b:=w.drewN nq) ⟨rfl,rfl,rfl,Nat.le_refl _,fun _ _ _=>rfl⟩ (qfj _ _ _)) (qfm _ _ T 1 _ rfl)) (qfk _ _)
 have hs1:w.heap.size<((((w.drewN nq).alloc (.cells #[.string ⟨#[]⟩,.int .i64 0,.string ⟨#[]⟩,.pointer none,.slice none 0 0] 244)).setCell ⟨T,1,none⟩ (.pointer (some ⟨w.heap.size,0,none⟩))).drew).heap.size:=by
  show w.heap.size<(((w.drewN nq).alloc _).setCell _ _).heap.size
  have:((w.drewN nq).alloc (.cells #[.string ⟨#[]⟩,.int .i64 0,.string ⟨#[]⟩,.pointer none,.slice none 0 0] 244)).heap.size=w.heap.size+1:=by
   show ((w.drewN nq).heap.push _).size=_
   rw [Array.size_push];rfl
  simp only [World.size_setCell,this];omega
 have hq1:((((w.drewN nq).alloc (.cells #[.string ⟨#[]⟩,.int .i64 0,.string ⟨#[]⟩,.pointer none,.slice none 0 0] 244)).setCell ⟨T,1,none⟩ (.pointer (some ⟨w.heap.size,0,none⟩))).drew).cell? ⟨T,1,none⟩=some (.pointer (some ⟨w.heap.size,0,none⟩)):=by
  rw [World.cell?_drew]
  exact World.cell?_setCell_same _ _ _ (hB _ _)
 have hq0:((((w.drewN nq).alloc (.cells #[.string ⟨#[]⟩,.int .i64 0,.string ⟨#[]⟩,.pointer none,.slice none 0 0] 244)).setCell ⟨T,1,none⟩ (.pointer (some ⟨w.heap.size,0,none⟩))).drew).cell? ⟨T,0,none⟩=some (.pointer none):=by
  rw [World.cell?_drew,World.cell?_setCell_other _ _ _ _ (by simp)]
  exact (World.cell?_alloc_past (w:=w.drewN nq) _ T 0 hT).trans t0
 have hqf:∀ j,((((w.drewN nq).alloc (.cells #[.string ⟨#[]⟩,.int .i64 0,.string ⟨#[]⟩,.pointer none,.slice none 0 0] 244)).setCell ⟨T,1,none⟩ (.pointer (some ⟨w.heap.size,0,none⟩))).drew).frozen? ⟨T,j,none⟩=false:=fun j=>by
  have:=hA nq (.cells #[.string ⟨#[]⟩,.int .i64 0,.string ⟨#[]⟩,.pointer none,.slice none 0 0] 244) j
  go_simp
 generalize (((w.drewN nq).alloc (.cells #[.string ⟨#[]⟩,.int .i64 0,.string ⟨#[]⟩,.pointer none,.slice none 0 0] 244)).setCell ⟨T,1,none⟩ (.pointer (some ⟨w.heap.size,0,none⟩))).drew=W at *
 have hNN:w'.heap[N]?=w.heap[N]?:=(hF.block N (Nat.lt_of_lt_of_le hNl hF0.size) (by omega)).trans (hF0.block N hNl ne)
 have hTT:w'.heap[T]?=W.heap[T]?:=hF.block T (Nat.lt_of_lt_of_le hT hF0.size) (by omega)
 have c1:∀ o,w'.cell? ⟨N,o,none⟩=w.cell? ⟨N,o,none⟩:=fun o=>World.cell?_of_block (w:=w) (a:=⟨N,o,none⟩) hNN
 have c2:∀ o,w'.cell? ⟨T,o,none⟩=W.cell? ⟨T,o,none⟩:=fun o=>World.cell?_of_block (w:=W) (a:=⟨T,o,none⟩) hTT
 refine ⟨w.heap.size,n2,rfl,⟨(c1 _).trans v0,(c1 _).trans v1,(c1 _).trans v2,(c1 _).trans v4,(c1 _).trans v5,fun j hj=>(c1 _).trans (mp j hj),(c2 _).trans hq0,(c2 _).trans hq1,fun j=>(qfw hTT).trans (hqf j),ne⟩,hN,hN2,Nat.le_refl _,by omega,by omega,?_⟩
 refine ⟨hF.os.trans hF0.os,hF.tape.trans hF0.tape,hF.output.trans hF0.output,Nat.le_trans hF0.size hF.size,fun k hk hn'=>?_⟩
 exact (hF.block k (Nat.lt_of_lt_of_le hk hF0.size) (by omega)).trans (hF0.block k hk hn')
set_option maxHeartbeats 3200000 in
theorem qou (N T:Nat) (p1:Value) (w:World) (h:Root w N T (.pointer none) p1) :
  Calls Tryz.prog 180 #[.pointer (some ⟨N,0,none⟩),.string ⟨#[10]⟩,.string ⟨#[13,10]⟩,.int .i64 2,.pointer (some ⟨N,0,none⟩)] w fun e w'=>∃ n3,e=.returned (.tuple #[])∧Root w' N T (.pointer (some ⟨n3,0,none⟩)) p1∧Node w' n3 ⟨#[13,10]⟩ 2 ⟨#[]⟩ (.pointer none)∧w.heap.size≤n3∧Frm (fun k=>k=T) w w':=by
 have hR:=h
 obtain ⟨v0,v1,v2,v4,v5,mp,t0,t1,f,ne⟩:=h
 have hT:=q7s t0
 have hNl:=q7s v0
 have m10:=mp 10 (by decide)
 have hA:∀ nq X j,((w.drewN nq).alloc X).frozen? ⟨T,j,none⟩=false:=fun nq X j=>by rw [World.frozen?_alloc_old (w.drewN nq) X ⟨T,j,none⟩ (show T≠w.heap.size by omega)];exact f j
 have hB:∀ nq X,((w.drewN nq).alloc X).cell? ⟨T,0,none⟩=some (.pointer none):=fun nq X=>(World.cell?_alloc_past (w:=w.drewN nq) X T 0 hT).trans t0
 have hC:∀ nq X,((w.drewN nq).alloc X).cell? ⟨N,4,none⟩=some (.slice (some ⟨T,0,none⟩) 2 2):=fun nq X=>(World.cell?_alloc_past (w:=w.drewN nq) X N 4 hNl).trans v4
 have e10:∀ h,(((⟨#[10]⟩:ByteArray)[0]'h).toNat:Int)=10:=fun _=>rfl
 have hnil:=fun (w:World) a l c=>Lib.run_eql_slice_nil (P:=Tryz.prog) w 242 241 a l c 0 0 Tryz.underlying242
 go_enter Tryz.func180,Tryz.ntmps180
 go_wp2
 go_quiet (fail)
 go_wp2
 go_region_with (go_at_call 180;refine (qp _ _ ⟨#[]⟩ ⟨#[]⟩ (.pointer none) (by apply Node.drew;apply Node.set _ (by omega);exact newNode _ _ rfl) _ _ _).mono ?_;rintro e w' ⟨rfl,hN,hF⟩)
 go_end0
 have hF0:Frm (fun k=>k=T) w ((((w.drewN nq).alloc (.cells #[.string ⟨#[]⟩,.int .i64 0,.string ⟨#[]⟩,.pointer none,.slice none 0 0] 244)).setCell ⟨T,0,none⟩ (.pointer (some ⟨w.heap.size,0,none⟩))).drew):=qfo (qfo (qfo (b:=w.drewN nq) ⟨rfl,rfl,rfl,Nat.le_refl _,fun _ _ _=>rfl⟩ (qfj _ _ _)) (qfm _ _ T 0 _ rfl)) (qfk _ _)
 have hs1:w.heap.size<((((w.drewN nq).alloc (.cells #[.string ⟨#[]⟩,.int .i64 0,.string ⟨#[]⟩,.pointer none,.slice none 0 0] 244)).setCell ⟨T,0,none⟩ (.pointer (some ⟨w.heap.size,0,none⟩))).drew).heap.size:=by
  show w.heap.size<(((w.drewN nq).alloc _).setCell _ _).heap.size
  have:((w.drewN nq).alloc (.cells #[.string ⟨#[]⟩,.int .i64 0,.string ⟨#[]⟩,.pointer none,.slice none 0 0] 244)).heap.size=w.heap.size+1:=by
   show ((w.drewN nq).heap.push _).size=_
   rw [Array.size_push];rfl
  simp only [World.size_setCell,this];omega
 have hq0:((((w.drewN nq).alloc (.cells #[.string ⟨#[]⟩,.int .i64 0,.string ⟨#[]⟩,.pointer none,.slice none 0 0] 244)).setCell ⟨T,0,none⟩ (.pointer (some ⟨w.heap.size,0,none⟩))).drew).cell? ⟨T,0,none⟩=some (.pointer (some ⟨w.heap.size,0,none⟩)):=by
  rw [World.cell?_drew]
  exact World.cell?_setCell_same _ _ _ (hB _ _)
 have hq1:((((w.drewN nq).alloc (.cells #[.string ⟨#[]⟩,.int .i64 0,.string ⟨#[]⟩,.pointer none,.slice none 0 0] 244)).setCell ⟨T,0,none⟩ (.pointer (some ⟨w.heap.size,0,none⟩))).drew).cell? ⟨T,1,none⟩=some p1:=by
  rw [World.cell?_drew,World.cell?_setCell_other _ _ _ _ (by simp)]
  exact (World.cell?_alloc_past (w:=w.drewN nq) _ T 1 hT).trans t1
 have hqf:∀ j,((((w.drewN nq).alloc (.cells #[.string ⟨#[]⟩,.int .i64 0,.string ⟨#[]⟩,.pointer none,.slice none 0 0] 244)).setCell ⟨T,0,none⟩ (.pointer (some ⟨w.heap.size,0,none⟩))).drew).frozen? ⟨T,j,none⟩=false:=fun j=>by
  have:=hA nq (.cells #[.string ⟨#[]⟩,.int .i64 0,.string ⟨#[]⟩,.pointer none,.slice none 0 0] 244) j
  go_simp
 generalize (((w.drewN nq).alloc (.cells #[.string ⟨#[]⟩,.int .i64 0,.string ⟨#[]⟩,.pointer none,.slice none 0 0] 244)).setCell ⟨T,0,none⟩ (.pointer (some ⟨w.heap.size,0,none⟩))).drew=W at *
 have hNN:w'.heap[N]?=w.heap[N]?:=(hF.block N (Nat.lt_of_lt_of_le hNl hF0.size) (by omega)).trans (hF0.block N hNl ne)
 have hTT:w'.heap[T]?=W.heap[T]?:=hF.block T (Nat.lt_of_lt_of_le hT hF0.size) (by omega)
 have c1:∀ o,w'.cell? ⟨N,o,none⟩=w.cell? ⟨N,o,none⟩:=fun o=>World.cell?_of_block (w:=w) (a:=⟨N,o,none⟩) hNN
 have c2:∀ o,w'.cell? ⟨T,o,none⟩=W.cell? ⟨T,o,none⟩:=fun o=>World.cell?_of_block (w:=W) (a:=⟨T,o,none⟩) hTT
 refine ⟨w.heap.size,rfl,⟨(c1 _).trans v0,(c1 _).trans v1,(c1 _).trans v2,(c1 _).trans v4,(c1 _).trans v5,fun j hj=>(c1 _).trans (mp j hj),(c2 _).trans hq0,(c2 _).trans hq1,fun j=>(qfw hTT).trans (hqf j),ne⟩,hN,Nat.le_refl _,?_⟩
 refine ⟨hF.os.trans hF0.os,hF.tape.trans hF0.tape,hF.output.trans hF0.output,Nat.le_trans hF0.size hF.size,fun k hk hn'=>?_⟩
 exact (hF.block k (Nat.lt_of_lt_of_le hk hF0.size) (by omega)).trans (hF0.block k hk hn')
end Go.Proofs.YtmacbkjehjbjeaaGreatDoor
