/- strings.Replacer.build, at the two pairs of rules.quote. -/
import Derived.Test.YtognhcibcocbkaaGreatDoorZ34
import Derived.LoopN
import Derived.Deep.WholeRow
import Derived.Lib.LazyBuf
import Derived.Lib.ConvBytes
import Derived.Laws.IdiomStrings
namespace Go.Proofs.YtognhcibcocbkaaGreatDoor
open Go.RowKit
set_option maxRecDepth 100000
theorem q1q:Tryz.zeroCells172.all (·.oneCell')=true:=by kernel_rfl
theorem qsq (w:World) (X:Obj) (g n c:Nat):(storeCells ⟨w.heap.size+1,0,none⟩ (Tryz.zeroCells172.toList.set 256 (.slice (some ⟨g,0,none⟩) n c))).run Tryz.prog ((w.alloc X).alloc (.cells Tryz.zeroCells172 172))=.ok () ((w.alloc X).alloc (.cells (Tryz.zeroCells172.setIfInBounds 256 (.slice (some ⟨g,0,none⟩) n c)) 172)):=by
 have h:=run_storeCells_new (P:=Tryz.prog) (w.alloc X) 172 Tryz.zeroCells172 (Tryz.zeroCells172.setIfInBounds 256 (.slice (some ⟨g,0,none⟩) n c)) (by rw [Array.size_setIfInBounds];kernel_rfl) (by simp) (by
  rw [Array.all_eq_true']
  intro x hx
  rcases Array.mem_or_eq_of_mem_setIfInBounds hx with h|h
  ·exact (Array.all_eq_true'.1 q1q) x h
  ·rw [h];rfl)
 rw [Array.toList_setIfInBounds] at h
 simpa using h
theorem qvy:Tryz.zeroCells172.size=257:=by kernel_rfl
theorem zc_at (v:Value) (j:Nat) (h:j<256):(Tryz.zeroCells172.setIfInBounds 256 v)[j]?=some (.slice none 0 0):=by
 rw [Array.getElem?_setIfInBounds_ne (by omega)]
 have:∀ j,j<256→Tryz.zeroCells172[j]?=some (.slice none 0 0):=by
  have h:((List.range 256).all fun j=>match Tryz.zeroCells172[j]? with|some (.slice none 0 0)=>true|_=>false)=true:=by kernel_rfl
  intro j hj
  have:=List.all_eq_true.1 h j (List.mem_range.2 hj)
  split at this
  ·assumption
  ·cases this
 exact this j h
theorem qvx (w:World) (X:Obj) (v:Value) (j:Nat) (h:j<256):((w.alloc X).alloc (.cells (Tryz.zeroCells172.setIfInBounds 256 v) 172)).cell? ⟨w.heap.size+1,j,none⟩=some (.slice none 0 0):=by
 have:(w.alloc X).heap.size=w.heap.size+1:=by simp
 have h2:=World.cell?_alloc_new (w.alloc X) (Tryz.zeroCells172.setIfInBounds 256 v) 172 j
 rw [this] at h2
 rw [h2,zc_at v j h]
theorem q4q (W:World) (q:Nat) (b:UInt8) (hc:W.cell? ⟨q,0,none⟩=some (.int .u8 b.toNat)):(convert 87 9 (.slice (some ⟨q,0,none⟩) 1 1)).run Tryz.prog W=.ok (.string ⟨#[b]⟩) W :=
 run_convert_bytes_back W 87 9 5 ⟨q,0,none⟩ 1 [b] Tryz.underlying87 Tryz.underlying5 Tryz.underlying9 (fun j hj=>by
  have:j=0:=by simpa using hj
  subst this
  exact hc)
theorem q4r {W:World} {s:ByteArray} {A:Result Value→Prop} (h:∀ cap,A (.ok (.slice (some ⟨W.heap.size,0,none⟩) s.size cap) (W.drew.alloc (.cells (bytesRow s cap) 5 ((bytesRow s cap).size,(bytesRow s cap).size+1))))):A ((convert 9 87 (.string s)).run Tryz.prog W):=by
 rw [run_bytes_of_string (P:=Tryz.prog) W 9 87 5 s Tryz.underlying9 Tryz.underlying87 Tryz.underlying5]
 exact h _
theorem old5 (w:World) (A B C D E:Obj) (g j:Nat) (hg:g<w.heap.size):(((((w.alloc A).alloc B).alloc C).alloc D).alloc E).drew.cell? ⟨g,j,none⟩=w.cell? ⟨g,j,none⟩:=by
 rw [World.cell?_drew]
 have h1:∀ (w:World) (X:Obj),g<w.heap.size→(w.alloc X).cell? ⟨g,j,none⟩=w.cell? ⟨g,j,none⟩∧g<(w.alloc X).heap.size:=fun w X h=>⟨World.cell?_alloc_past _ _ _ h,by simp;omega⟩
 obtain ⟨a1,b1⟩:=h1 w A hg
 obtain ⟨a2,b2⟩:=h1 _ B b1
 obtain ⟨a3,b3⟩:=h1 _ C b2
 obtain ⟨a4,b4⟩:=h1 _ D b3
 obtain ⟨a5,b5⟩:=h1 _ E b4
 rw [a5,a4,a3,a2,a1]
theorem zc5 (w:World) (A C D E:Obj) (v1 v2:Value):(((((w.alloc A).alloc (.cells ((Tryz.zeroCells172.setIfInBounds 256 v1).setIfInBounds 34 v2) 172)).alloc C).alloc D).alloc E).drew.cell? ⟨w.heap.size+1,92,none⟩=some (.slice none 0 0):=by
 rw [World.cell?_drew]
 have hs:(w.alloc A).heap.size=w.heap.size+1:=by simp
 have h0:((w.alloc A).alloc (.cells ((Tryz.zeroCells172.setIfInBounds 256 v1).setIfInBounds 34 v2) 172)).cell? ⟨w.heap.size+1,92,none⟩=some (.slice none 0 0):=by
  have h2:=World.cell?_alloc_new (w.alloc A) ((Tryz.zeroCells172.setIfInBounds 256 v1).setIfInBounds 34 v2) 172 92
  rw [hs] at h2
  rw [h2,Array.getElem?_setIfInBounds_ne (by omega),zc_at v1 92 (by decide)]
 have h1:∀ (W:World) (X:Obj),w.heap.size+1<W.heap.size→(W.alloc X).cell? ⟨w.heap.size+1,92,none⟩=W.cell? ⟨w.heap.size+1,92,none⟩∧w.heap.size+1<(W.alloc X).heap.size:=fun W X h=>⟨World.cell?_alloc_past _ _ _ h,by simp;omega⟩
 obtain ⟨a3,b3⟩:=h1 ((w.alloc A).alloc (.cells ((Tryz.zeroCells172.setIfInBounds 256 v1).setIfInBounds 34 v2) 172)) C (by simp)
 obtain ⟨a4,b4⟩:=h1 _ D b3
 obtain ⟨a5,b5⟩:=h1 _ E b4
 rw [a5,a4,a3,h0]
structure Rpl (lo:Nat) (w:World) (N q r1 r2 c1 c2:Nat):Prop where
 lN:lo≤N
 lq:lo≤q
 l1:lo≤r1
 l2:lo≤r2
 all:w.cell? ⟨N,256,none⟩=some (.slice (some ⟨q,0,none⟩) 2 2)
 q0:w.cell? ⟨q,0,none⟩=some (.string ⟨#[34]⟩)
 q1:w.cell? ⟨q,1,none⟩=some (.string ⟨#[92]⟩)
 no:∀ j,j<256→j≠34→j≠92→w.cell? ⟨N,j,none⟩=some (.slice none 0 0)
 s34:w.cell? ⟨N,34,none⟩=some (.slice (some ⟨r1,0,none⟩) 2 c1)
 s92:w.cell? ⟨N,92,none⟩=some (.slice (some ⟨r2,0,none⟩) 2 c2)
 a0:w.cell? ⟨r1,0,none⟩=some (.int .u8 92)
 a1:w.cell? ⟨r1,1,none⟩=some (.int .u8 34)
 b0:w.cell? ⟨r2,0,none⟩=some (.int .u8 92)
 b1:w.cell? ⟨r2,1,none⟩=some (.int .u8 92)
theorem heap8 (w:World) (A B C D E F G H:Obj) :
  ((((((((((w.alloc A).alloc B).alloc C).alloc D).alloc E).alloc F).alloc G).alloc H).drew).drew).heap[w.heap.size]?=some A ∧
  ((((((((((w.alloc A).alloc B).alloc C).alloc D).alloc E).alloc F).alloc G).alloc H).drew).drew).heap[w.heap.size+1]?=some B ∧
  ((((((((((w.alloc A).alloc B).alloc C).alloc D).alloc E).alloc F).alloc G).alloc H).drew).drew).heap[w.heap.size+1+1+1+1]?=some E ∧
  ((((((((((w.alloc A).alloc B).alloc C).alloc D).alloc E).alloc F).alloc G).alloc H).drew).drew).heap[w.heap.size+1+1+1+1+1+1+1]?=some H:=by
 have hd:∀ W:World,W.drew.heap=W.heap:=fun _=>rfl
 have hn:∀ (W:World) (X:Obj),(W.alloc X).heap[W.heap.size]?=some X:=fun W X=>by
  show (W.heap.push X)[W.heap.size]?=_
  simp
 have hs:∀ (W:World) (X:Obj),(W.alloc X).heap.size=W.heap.size+1:=fun W X=>by
  show (W.heap.push X).size=_
  simp
 have ho:∀ (W:World) (X:Obj) k,k<W.heap.size→(W.alloc X).heap[k]?=W.heap[k]?:=fun W X k h=>Below.heap_alloc W X k h
 simp only [hd]
 refine ⟨?_,?_,?_,?_⟩
 ·rw [ho _ _ _ (by simp only [hs];omega),ho _ _ _ (by simp only [hs];omega),ho _ _ _ (by simp only [hs];omega),ho _ _ _ (by simp only [hs];omega),ho _ _ _ (by simp only [hs];omega),ho _ _ _ (by simp only [hs];omega),ho _ _ _ (by simp only [hs];omega),hn]
 ·rw [ho _ _ _ (by simp only [hs];omega),ho _ _ _ (by simp only [hs];omega),ho _ _ _ (by simp only [hs];omega),ho _ _ _ (by simp only [hs];omega),ho _ _ _ (by simp only [hs];omega),ho _ _ _ (by simp only [hs];omega),←hs w A,hn]
 ·rw [ho _ _ _ (by simp only [hs];omega),ho _ _ _ (by simp only [hs];omega),ho _ _ _ (by simp only [hs];omega),←hs w A,←hs (w.alloc A) B,←hs _ C,←hs _ D,hn]
 ·rw [←hs w A,←hs (w.alloc A) B,←hs _ C,←hs _ D,←hs _ E,←hs _ F,←hs _ G,hn]
theorem row2 (s:ByteArray) (c:Nat) (j:Nat) (h:j<s.size):(bytesRow s c)[j]?=some (.int .u8 (s.data.getD j 0).toNat):=by
 have h':j<s.data.size:=h
 unfold bytesRow
 rw [Array.getElem?_append_left (by simpa using h')]
 rw [Array.getElem?_map,Array.getElem?_eq_getElem h',Array.getD,dif_pos h']
 rfl
theorem rpl8 (w:World) (cap1 cap2:Nat) (C D F G:Obj) (m1 m2:Nat×Nat):Rpl w.heap.size ((((((((((w.alloc (.cells #[.string ⟨#[34]⟩,.string ⟨#[92]⟩] 9)).alloc (.cells ((((Tryz.zeroCells172.setIfInBounds 256 (.slice (some ⟨w.heap.size,0,none⟩) 2 2)).setIfInBounds 34 (.slice (some ⟨w.heap.size+1+1+1+1,0,none⟩) 2 cap1)).setIfInBounds 92 (.slice (some ⟨w.heap.size+1+1+1+1+1+1+1,0,none⟩) 2 cap2))) 172)).alloc C).alloc D).alloc (.cells (bytesRow ⟨#[92,34]⟩ cap1) 5 m1)).alloc F).alloc G).alloc (.cells (bytesRow ⟨#[92,92]⟩ cap2) 5 m2)).drew).drew) (w.heap.size+1) w.heap.size (w.heap.size+1+1+1+1) (w.heap.size+1+1+1+1+1+1+1) cap1 cap2:=by
 obtain ⟨h1,h2,h5,h8⟩:=heap8 w (.cells #[.string ⟨#[34]⟩,.string ⟨#[92]⟩] 9) (.cells ((((Tryz.zeroCells172.setIfInBounds 256 (.slice (some ⟨w.heap.size,0,none⟩) 2 2)).setIfInBounds 34 (.slice (some ⟨w.heap.size+1+1+1+1,0,none⟩) 2 cap1)).setIfInBounds 92 (.slice (some ⟨w.heap.size+1+1+1+1+1+1+1,0,none⟩) 2 cap2))) 172) C D (.cells (bytesRow ⟨#[92,34]⟩ cap1) 5 m1) F G (.cells (bytesRow ⟨#[92,92]⟩ cap2) 5 m2)
 have hz:=qvy
 refine ⟨by omega,by omega,by omega,by omega,?_,?_,?_,fun j h a b=>?_,?_,?_,?_,?_,?_,?_⟩
 ·simp only [World.cell?,h2]
  rw [Array.getElem?_setIfInBounds_ne (by omega),Array.getElem?_setIfInBounds_ne (by omega),Array.getElem?_setIfInBounds_self_of_lt (by omega)]
  rfl
 ·simp only [World.cell?,h1];rfl
 ·simp only [World.cell?,h1];rfl
 ·simp only [World.cell?,h2]
  rw [Array.getElem?_setIfInBounds_ne (by omega),Array.getElem?_setIfInBounds_ne (by omega)]
  exact zc_at _ j h
 ·simp only [World.cell?,h2]
  rw [Array.getElem?_setIfInBounds_ne (by omega),Array.getElem?_setIfInBounds_self_of_lt (by simp only [Array.size_setIfInBounds];omega)]
  rfl
 ·simp only [World.cell?,h2]
  rw [Array.getElem?_setIfInBounds_self_of_lt (by simp only [Array.size_setIfInBounds];omega)]
  rfl
 ·simp only [World.cell?,h5];exact row2 _ _ 0 (by decide)
 ·simp only [World.cell?,h5];exact row2 _ _ 1 (by decide)
 ·simp only [World.cell?,h8];exact row2 _ _ 0 (by decide)
 ·simp only [World.cell?,h8];exact row2 _ _ 1 (by decide)
set_option maxHeartbeats 4000000 in
theorem q3s (b g c:Nat) (hc:4≤c) (w:World) (h4:w.cell? ⟨b,4,none⟩=some (.slice (some ⟨g,0,none⟩) 4 c)) (hc0:w.cell? ⟨g,0,none⟩=some (.string ⟨#[92]⟩)) (hc1:w.cell? ⟨g,1,none⟩=some (.string ⟨#[92,92]⟩)) (hc2:w.cell? ⟨g,2,none⟩=some (.string ⟨#[34]⟩)) (hc3:w.cell? ⟨g,3,none⟩=some (.string ⟨#[92,34]⟩)) :
  Calls Tryz.prog 109 #[.pointer (some ⟨b,0,none⟩)] w fun e w'=>∃ N q r1 r2 c1 c2,e=.returned (.iface 173 (.pointer (some ⟨N,0,none⟩)))∧Rpl w.heap.size w' N q r1 r2 c1 c2∧Below w.heap.size w w':=by
 have hmk:∀ w:World,(Instr.makeSlice 66 (.int .i64 0) (.int .i64 2)).run Tryz.prog w=.ok (.slice (some ⟨w.heap.size,0,none⟩) 0 2) (w.alloc (.cells #[.string ⟨#[]⟩,.string ⟨#[]⟩] 9)):=fun _=>by kernel_rfl
 have hst:=qsq
 have hnil:=fun (w:World) a l c=>Lib.run_eql_slice_nil (P:=Tryz.prog) w 87 5 a l c 0 0 Tryz.underlying87
 have e34:∀ h,(((⟨#[34]⟩:ByteArray)[0]'h).toNat:Int)=34:=fun _=>rfl
 have e92:∀ h,(((⟨#[92]⟩:ByteArray)[0]'h).toNat:Int)=92:=fun _=>rfl
 have hz34:=fun X v=>qvx w X v 34 (by decide)
 have hg:=Lib.lt_of_cell hc0
 have hO0:=fun A B C D E=>(old5 w A B C D E g 0 hg).trans hc0
 have hO1:=fun A B C D E=>(old5 w A B C D E g 1 hg).trans hc1
 have hO92:=zc5 w
 go_enter Tryz.func109,Tryz.ntmps109
 go_wp2
 refine wp_loop_rounds 3 ?_
 rw [rounds_succ]
 go_wp2
 rw [rounds_succ]
 go_wp2
 rw [rounds_succ]
 go_wp2
 refine wp_loop_rounds 3 ?_
 rw [rounds_succ]
 go_wp2
 rw [q4q _ _ 34 (by go_simp)]
 go_wp2
 refine q4r (A:=fun R=>Oper.upon _ _ _ _ _ (R.andThen _)) fun cap1=>?_
 go_wp2
 rw [rounds_succ]
 go_wp2
 rw [q4q _ _ 92 (by go_simp)]
 go_wp2
 refine q4r (A:=fun R=>Oper.upon _ _ _ _ _ (R.andThen _)) fun cap2=>?_
 go_wp2
 rw [rounds_succ]
 go_wp2
 go_ret
 have hb:∀ (W:World) (X:Obj),Below w.heap.size w W→Below w.heap.size w (W.alloc X):=fun W X h=>h.alloc h.size X
 exact ⟨_,_,_,_,_,_,rfl,rpl8 w cap1 cap2 _ _ _ _ _ _,(hb _ _ (hb _ _ (hb _ _ (hb _ _ (hb _ _ (hb _ _ (hb _ _ (hb _ _ (Below.refl _ w))))))))).drew.drew⟩
end Go.Proofs.YtognhcibcocbkaaGreatDoor
namespace Go.Proofs.YtognhcibcocbkaaGreatDoor
open Go.RowKit
set_option maxRecDepth 100000
structure Raw (w:World) (b g c:Nat):Prop where
 hc:4≤c
 hb:b<w.heap.size
 d0:w.cell? ⟨b,0,none⟩=some (.int .u32 0)
 d1:w.cell? ⟨b,1,none⟩=some (.int .i32 0)
 d3:∃ x,w.cell? ⟨b,3,none⟩=some x
 d4:w.cell? ⟨b,4,none⟩=some (.slice (some ⟨g,0,none⟩) 4 c)
 f:∀ j,w.frozen? ⟨b,j,none⟩=false
 g0:w.cell? ⟨g,0,none⟩=some (.string ⟨#[92]⟩)
 g1:w.cell? ⟨g,1,none⟩=some (.string ⟨#[92,92]⟩)
 g2:w.cell? ⟨g,2,none⟩=some (.string ⟨#[34]⟩)
 g3:w.cell? ⟨g,3,none⟩=some (.string ⟨#[92,34]⟩)
 ne:g≠b
theorem q3q (b g c:Nat) (hc:4≤c) (w:World) (hb:b<w.heap.size) (x3:Value) (h3:w.cell? ⟨b,3,none⟩=some x3) (h4:w.cell? ⟨b,4,none⟩=some (.slice (some ⟨g,0,none⟩) 4 c)) (f3:w.frozen? ⟨b,3,none⟩=false) (f4:w.frozen? ⟨b,4,none⟩=false)
  (hc0:w.cell? ⟨g,0,none⟩=some (.string ⟨#[92]⟩)) (hc1:w.cell? ⟨g,1,none⟩=some (.string ⟨#[92,92]⟩)) (hc2:w.cell? ⟨g,2,none⟩=some (.string ⟨#[34]⟩)) (hc3:w.cell? ⟨g,3,none⟩=some (.string ⟨#[92,34]⟩)) :
  Calls Tryz.prog 102 #[.pointer (some ⟨b,0,none⟩)] w fun e w'=>∃ N q r1 r2 c1 c2 W1,e=.returned (.tuple #[])∧Rpl w.heap.size W1 N q r1 r2 c1 c2∧Below w.heap.size w W1∧w'=(W1.setCell ⟨b,3,none⟩ (.iface 173 (.pointer (some ⟨N,0,none⟩)))).setCell ⟨b,4,none⟩ (.slice none 0 0):=by
 go_enter Tryz.func102,Tryz.ntmps102
 go_wp2_with (go_at_call 109;refine (q3s b g c hc _ h4 hc0 hc1 hc2 hc3).mono ?_;rintro e W1 ⟨N,q,r1,r2,c1,c2,rfl,hR,hB⟩;have h3':W1.cell? ⟨b,3,none⟩=some x3:=(hB.cell hb).trans h3;have h4':W1.cell? ⟨b,4,none⟩=some (.slice (some ⟨g,0,none⟩) 4 c):=(hB.cell hb).trans h4;have f3':W1.frozen? ⟨b,3,none⟩=false:=(hB.frozen hb).trans f3;have f4':W1.frozen? ⟨b,4,none⟩=false:=(hB.frozen hb).trans f4)
 go_end0
 exact ⟨N,q,r1,r2,c1,c2,W1,rfl,hR,hB,rfl⟩
structure Built (w:World) (b:Nat) (w':World):Prop where
 ex:∃ N q r1 r2 c1 c2,Rpl w.heap.size w' N q r1 r2 c1 c2∧w'.cell? ⟨b,3,none⟩=some (.iface 173 (.pointer (some ⟨N,0,none⟩)))
 os:w'.os=w.os
 tape:w'.tape=w.tape
 output:w'.output=w.output
 size:w.heap.size≤w'.heap.size
 block:∀ k,k<w.heap.size→k≠b→w'.heap[k]?=w.heap[k]?
theorem Rpl.set {lo:Nat} {w:World} {N q r1 r2 c1 c2:Nat} (h:Rpl lo w N q r1 r2 c1 c2) (a:Addr) (ha:a.block<lo) (v:Value):Rpl lo (w.setCell a v) N q r1 r2 c1 c2:=by
 have ho:∀ k j,lo≤k→(w.setCell a v).cell? ⟨k,j,none⟩=w.cell? ⟨k,j,none⟩:=fun k j hk=>World.cell?_setCell_other w a ⟨k,j,none⟩ v (fun e=>by rw [e] at ha;simp only at ha;omega)
 obtain ⟨l1,l2,l3,l4,a1,a2,a3,a4,a5,a6,a7,a8,a9,a10⟩:=h
 exact ⟨l1,l2,l3,l4,(ho _ _ l1).trans a1,(ho _ _ l2).trans a2,(ho _ _ l2).trans a3,fun j x y z=>(ho _ _ l1).trans (a4 j x y z),(ho _ _ l1).trans a5,(ho _ _ l1).trans a6,(ho _ _ l3).trans a7,(ho _ _ l3).trans a8,(ho _ _ l4).trans a9,(ho _ _ l4).trans a10⟩
theorem Rpl.drew {lo:Nat} {w:World} {N q r1 r2 c1 c2:Nat} (h:Rpl lo w N q r1 r2 c1 c2):Rpl lo w.drew N q r1 r2 c1 c2:=by
 have ho:∀ a,w.drew.cell? a=w.cell? a:=fun a=>World.cell?_drew w a
 obtain ⟨l1,l2,l3,l4,a1,a2,a3,a4,a5,a6,a7,a8,a9,a10⟩:=h
 exact ⟨l1,l2,l3,l4,(ho _).trans a1,(ho _).trans a2,(ho _).trans a3,fun j x y z=>(ho _).trans (a4 j x y z),(ho _).trans a5,(ho _).trans a6,(ho _).trans a7,(ho _).trans a8,(ho _).trans a9,(ho _).trans a10⟩
set_option maxHeartbeats 1600000 in
theorem qrz (b g c:Nat) (w:World) (h:Raw w b g c) :
  Calls Tryz.prog 108 #[.pointer (some ⟨b,0,none⟩),.func (.func 102) #[.pointer (some ⟨b,0,none⟩)] #[]] w fun e w'=>e=.returned (.tuple #[])∧Built w b w':=by
 obtain ⟨hc,hb,d0,d1,⟨x3,d3⟩,d4,f,g0,g1,g2,g3,ne⟩:=h
 have hs:(w.setCell ⟨b,1,none⟩ (.int .i32 1)).heap.size=w.heap.size:=by simp
 have o:∀ k j,(k≠b∨j≠1)→(w.setCell ⟨b,1,none⟩ (.int .i32 1)).cell? ⟨k,j,none⟩=w.cell? ⟨k,j,none⟩:=fun k j hk=>World.cell?_setCell_other w ⟨b,1,none⟩ ⟨k,j,none⟩ _ (fun e=>by injection e with e1 e2;rcases hk with h|h <;> omega)
 have hf:∀ a,(w.setCell ⟨b,1,none⟩ (.int .i32 1)).frozen? a=w.frozen? a:=fun a=>by go_simp
 have hl:=run_call_load (P:=Tryz.prog) Tryz.func116 (by kernel_rfl) (by kernel_rfl) (by kernel_rfl) .u32 (by kernel_rfl) (w:=w.setCell ⟨b,1,none⟩ (.int .i32 1)) (a:=⟨b,0,none⟩) (x:=0) ((o _ _ (.inr (by decide))).trans d0)
 have hnot:∀ (x:Bool) (w:World),(Op.unary .not (.bool x)).run Tryz.prog w=.ok (.bool (!x)) w:=fun _ _=>rfl
 go_enter_defers Tryz.func108,Tryz.ntmps108
 go_wp2_with (first|(go_at_call 117;refine (qbj ⟨b,1,none⟩ _ d1 (f 1)).mono ?_;rintro e w' ⟨rfl,rfl⟩)|(go_at_call 102;refine (q3q b g c hc _ (by rw [hs];exact hb) x3 ((o _ _ (.inr (by decide))).trans d3) ((o _ _ (.inr (by decide))).trans d4) ((hf _).trans (f 3)) ((hf _).trans (f 4)) ((o _ _ (.inl ne)).trans g0) ((o _ _ (.inl ne)).trans g1) ((o _ _ (.inl ne)).trans g2) ((o _ _ (.inl ne)).trans g3)).mono ?_;rintro e w' ⟨N,q,r1,r2,c1,c2,W1,rfl,hR,hB,rfl⟩)|(go_at_call 107;go_in))
 rw [hs] at hR hB
 have hbb:=hb
 have k1:∀ j,j≠1→W1.cell? ⟨b,j,none⟩=w.cell? ⟨b,j,none⟩:=fun j hj=>(hB.cell hb).trans (o _ _ (.inr hj))
 have k2:W1.cell? ⟨b,1,none⟩=some (.int .i32 1):=(hB.cell hb).trans (World.cell?_setCell_same w ⟨b,1,none⟩ _ d1)
 have k3:∀ j,W1.frozen? ⟨b,j,none⟩=false:=fun j=>(hB.frozen hb).trans ((hf _).trans (f j))
 have so:∀ (W:World) (i j:Nat) v,i≠j→(W.setCell ⟨b,i,none⟩ v).cell? ⟨b,j,none⟩=W.cell? ⟨b,j,none⟩:=fun W i j v h=>World.cell?_setCell_other W ⟨b,i,none⟩ ⟨b,j,none⟩ v (fun e=>by injection e with _ e2;exact h e2)
 refine leaves_cons (f:=119) (args:=#[.pointer (some ⟨b,0,none⟩),.bool true]) (by simp) (by simp [go_sem]) ?_
 refine (qsp ⟨b,0,none⟩ (.int .u32 0) .returning _ ?_ (by simp [k3])).mono ?_
 ·exact (so _ 4 0 _ (by decide)).trans ((so _ 3 0 _ (by decide)).trans ((k1 0 (by decide)).trans d0))
 rintro e u' w'' ⟨rfl,rfl,rfl⟩
 refine leaves_cons (f:=118) (args:=#[.pointer (some ⟨b,1,none⟩)]) (by simp [settle]) (by simp [go_sem]) ?_
 refine (qv4 ⟨b,1,none⟩ _ _ ?_ (by simp [k3])).mono ?_
 ·refine (so _ 0 1 _ (by decide)).trans ?_
  rw [World.cell?_drew]
  exact (so _ 4 1 _ (by decide)).trans ((so _ 3 1 _ (by decide)).trans k2)
 rintro e u' w'' ⟨rfl,rfl,rfl⟩
 have hB2:Built w b (((((W1.setCell ⟨b,3,none⟩ (.iface 173 (.pointer (some ⟨N,0,none⟩)))).setCell ⟨b,4,none⟩ (.slice none 0 0)).drew.setCell ⟨b,0,none⟩ (.int .u32 1))).setCell ⟨b,1,none⟩ (.int .i32 0)):=by
  have hZ:=(((((((Below.refl 0 w).setCell (p:=⟨b,1,none⟩) (Nat.zero_le _) (.int .i32 1)).trans (hB.mono (Nat.zero_le _))).setCell (p:=⟨b,3,none⟩) (Nat.zero_le _) (.iface 173 (.pointer (some ⟨N,0,none⟩)))).setCell (p:=⟨b,4,none⟩) (Nat.zero_le _) (.slice none 0 0)).drew).setCell (p:=⟨b,0,none⟩) (Nat.zero_le _) (.int .u32 1)).setCell (p:=⟨b,1,none⟩) (Nat.zero_le _) (.int .i32 0)
  refine ⟨⟨N,q,r1,r2,c1,c2,((((hR.set ⟨b,3,none⟩ hb _).set ⟨b,4,none⟩ hb _).drew).set ⟨b,0,none⟩ hb _).set ⟨b,1,none⟩ hb _,?_⟩,?_,?_,?_,?_,?_⟩
  ·refine (so _ 1 3 _ (by decide)).trans ((so _ 0 3 _ (by decide)).trans ?_)
   rw [World.cell?_drew]
   exact (so _ 4 3 _ (by decide)).trans (World.cell?_setCell_same W1 ⟨b,3,none⟩ _ ((k1 3 (by decide)).trans d3))
  ·exact hZ.os
  ·exact hZ.tape
  ·exact hZ.output
  ·exact hZ.size
  ·intro k hk hne
   rw [Below.heap_setCell _ _ _ _ hne,Below.heap_setCell _ _ _ _ hne]
   show ((W1.setCell _ _).setCell _ _).heap[k]?=_
   rw [Below.heap_setCell _ _ _ _ hne,Below.heap_setCell _ _ _ _ hne,hB.block k hk,Below.heap_setCell _ _ _ _ hne]
 simp [Leaves,settle,results,Tryz.results108]
 exact hB2
end Go.Proofs.YtognhcibcocbkaaGreatDoor
