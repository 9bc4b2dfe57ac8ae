/- strings.Replacer: built once. -/
import Derived.Test.YtognhcibcocbkaaGreatDoorZ31
import Derived.Test.YtognhcibcocbkaaGreatDoorGB
import Derived.LoopTactic
import Derived.Deep.QuietTactic
import Derived.BigQuiet
import Derived.Deep.OwnRows
import Derived.Laws.CopyOwn
import Derived.Deep.RegionLaw
namespace Go.Proofs.YtognhcibcocbkaaGreatDoor
open Go.RowKit
set_option maxRecDepth 100000
structure Raw (w:World) (b g c:Nat):Prop where
 hc:4≤c
 hb:b<w.heap.size
 d0:w.cell? ⟨b,0,none⟩=some (.int .u32 0)
 d1:w.cell? ⟨b,1,none⟩=some (.int .i32 0)
 d3:∃ x,w.cell? ⟨b,3,none⟩=some x
 d4:w.cell? ⟨b,4,none⟩=some (.slice (some ⟨g,0,none⟩) 4 c)
 f:∀ j,w.frozen? ⟨b,j,none⟩=false
 g0:w.cell? ⟨g,0,none⟩=some (.string ⟨#[92]⟩)
 g1:w.cell? ⟨g,1,none⟩=some (.string ⟨#[92,92]⟩)
 g2:w.cell? ⟨g,2,none⟩=some (.string ⟨#[34]⟩)
 g3:w.cell? ⟨g,3,none⟩=some (.string ⟨#[92,34]⟩)
 ne:g≠b
theorem q3q (b g c:Nat) (hc:4≤c) (w:World) (hb:b<w.heap.size) (x3:Value) (h3:w.cell? ⟨b,3,none⟩=some x3) (h4:w.cell? ⟨b,4,none⟩=some (.slice (some ⟨g,0,none⟩) 4 c)) (f3:w.frozen? ⟨b,3,none⟩=false) (f4:w.frozen? ⟨b,4,none⟩=false)
  (hc0:w.cell? ⟨g,0,none⟩=some (.string ⟨#[92]⟩)) (hc1:w.cell? ⟨g,1,none⟩=some (.string ⟨#[92,92]⟩)) (hc2:w.cell? ⟨g,2,none⟩=some (.string ⟨#[34]⟩)) (hc3:w.cell? ⟨g,3,none⟩=some (.string ⟨#[92,34]⟩)) :
  Calls Tryz.prog 102 #[.pointer (some ⟨b,0,none⟩)] w fun e w'=>∃ N q r1 r2 c1 c2 W1,e=.returned (.tuple #[])∧Rpl w.heap.size W1 N q r1 r2 c1 c2∧Below w.heap.size w W1∧w'=(W1.setCell ⟨b,3,none⟩ (.iface 173 (.pointer (some ⟨N,0,none⟩)))).setCell ⟨b,4,none⟩ (.slice none 0 0):=by
 go_enter Tryz.func102,Tryz.ntmps102
 go_wp2_with (go_at_call 109;refine (q3s b g c hc _ h4 hc0 hc1 hc2 hc3).mono ?_;rintro e W1 ⟨N,q,r1,r2,c1,c2,rfl,hR,hB⟩;have h3':W1.cell? ⟨b,3,none⟩=some x3:=(hB.cell hb).trans h3;have h4':W1.cell? ⟨b,4,none⟩=some (.slice (some ⟨g,0,none⟩) 4 c):=(hB.cell hb).trans h4;have f3':W1.frozen? ⟨b,3,none⟩=false:=(hB.frozen hb).trans f3;have f4':W1.frozen? ⟨b,4,none⟩=false:=(hB.frozen hb).trans f4)
 go_end0
 exact ⟨N,q,r1,r2,c1,c2,W1,rfl,hR,hB,rfl⟩
structure Built (w:World) (b:Nat) (w':World):Prop where
 ex:∃ N q r1 r2 c1 c2,Rpl w.heap.size w' N q r1 r2 c1 c2∧w'.cell? ⟨b,3,none⟩=some (.iface 173 (.pointer (some ⟨N,0,none⟩)))
 os:w'.os=w.os
 tape:w'.tape=w.tape
 output:w'.output=w.output
 size:w.heap.size≤w'.heap.size
 block:∀ k,k<w.heap.size→k≠b→w'.heap[k]?=w.heap[k]?
theorem Rpl.set {lo:Nat} {w:World} {N q r1 r2 c1 c2:Nat} (h:Rpl lo w N q r1 r2 c1 c2) (a:Addr) (ha:a.block<lo) (v:Value):Rpl lo (w.setCell a v) N q r1 r2 c1 c2:=by
 have ho:∀ k j,lo≤k→(w.setCell a v).cell? ⟨k,j,none⟩=w.cell? ⟨k,j,none⟩:=fun k j hk=>World.cell?_setCell_other w a ⟨k,j,none⟩ v (fun e=>by rw [e] at ha;simp only at ha;omega)
 obtain ⟨l1,l2,l3,l4,a1,a2,a3,a4,a5,a6,a7,a8,a9,a10⟩:=h
 exact ⟨l1,l2,l3,l4,(ho _ _ l1).trans a1,(ho _ _ l2).trans a2,(ho _ _ l2).trans a3,fun j x y z=>(ho _ _ l1).trans (a4 j x y z),(ho _ _ l1).trans a5,(ho _ _ l1).trans a6,(ho _ _ l3).trans a7,(ho _ _ l3).trans a8,(ho _ _ l4).trans a9,(ho _ _ l4).trans a10⟩
theorem Rpl.drew {lo:Nat} {w:World} {N q r1 r2 c1 c2:Nat} (h:Rpl lo w N q r1 r2 c1 c2):Rpl lo w.drew N q r1 r2 c1 c2:=by
 have ho:∀ a,w.drew.cell? a=w.cell? a:=fun a=>World.cell?_drew w a
 obtain ⟨l1,l2,l3,l4,a1,a2,a3,a4,a5,a6,a7,a8,a9,a10⟩:=h
 exact ⟨l1,l2,l3,l4,(ho _).trans a1,(ho _).trans a2,(ho _).trans a3,fun j x y z=>(ho _).trans (a4 j x y z),(ho _).trans a5,(ho _).trans a6,(ho _).trans a7,(ho _).trans a8,(ho _).trans a9,(ho _).trans a10⟩
set_option maxHeartbeats 1600000 in
theorem qrz (b g c:Nat) (w:World) (h:Raw w b g c) :
  Calls Tryz.prog 108 #[.pointer (some ⟨b,0,none⟩),.func (.func 102) #[.pointer (some ⟨b,0,none⟩)] #[]] w fun e w'=>e=.returned (.tuple #[])∧Built w b w':=by
 obtain ⟨hc,hb,d0,d1,⟨x3,d3⟩,d4,f,g0,g1,g2,g3,ne⟩:=h
 have hs:(w.setCell ⟨b,1,none⟩ (.int .i32 1)).heap.size=w.heap.size:=by simp
 have o:∀ k j,(k≠b∨j≠1)→(w.setCell ⟨b,1,none⟩ (.int .i32 1)).cell? ⟨k,j,none⟩=w.cell? ⟨k,j,none⟩:=fun k j hk=>World.cell?_setCell_other w ⟨b,1,none⟩ ⟨k,j,none⟩ _ (fun e=>by injection e with e1 e2;rcases hk with h|h <;> omega)
 have hf:∀ a,(w.setCell ⟨b,1,none⟩ (.int .i32 1)).frozen? a=w.frozen? a:=fun a=>by go_simp
 have hl:=run_call_load (P:=Tryz.prog) Tryz.func116 (by kernel_rfl) (by kernel_rfl) (by kernel_rfl) .u32 (by kernel_rfl) (w:=w.setCell ⟨b,1,none⟩ (.int .i32 1)) (a:=⟨b,0,none⟩) (x:=0) ((o _ _ (.inr (by decide))).trans d0)
 have hnot:∀ (x:Bool) (w:World),(Op.unary .not (.bool x)).run Tryz.prog w=.ok (.bool (!x)) w:=fun _ _=>rfl
 go_enter_defers Tryz.func108,Tryz.ntmps108
 go_wp2_with (first|(go_at_call 117;refine (qbj ⟨b,1,none⟩ _ d1 (f 1)).mono ?_;rintro e w' ⟨rfl,rfl⟩)|(go_at_call 102;refine (q3q b g c hc _ (by rw [hs];exact hb) x3 ((o _ _ (.inr (by decide))).trans d3) ((o _ _ (.inr (by decide))).trans d4) ((hf _).trans (f 3)) ((hf _).trans (f 4)) ((o _ _ (.inl ne)).trans g0) ((o _ _ (.inl ne)).trans g1) ((o _ _ (.inl ne)).trans g2) ((o _ _ (.inl ne)).trans g3)).mono ?_;rintro e w' ⟨N,q,r1,r2,c1,c2,W1,rfl,hR,hB,rfl⟩)|(go_at_call 107;go_in))
 rw [hs] at hR hB
 have hbb:=hb
 have k1:∀ j,j≠1→W1.cell? ⟨b,j,none⟩=w.cell? ⟨b,j,none⟩:=fun j hj=>(hB.cell hb).trans (o _ _ (.inr hj))
 have k2:W1.cell? ⟨b,1,none⟩=some (.int .i32 1):=(hB.cell hb).trans (World.cell?_setCell_same w ⟨b,1,none⟩ _ d1)
 have k3:∀ j,W1.frozen? ⟨b,j,none⟩=false:=fun j=>(hB.frozen hb).trans ((hf _).trans (f j))
 have so:∀ (W:World) (i j:Nat) v,i≠j→(W.setCell ⟨b,i,none⟩ v).cell? ⟨b,j,none⟩=W.cell? ⟨b,j,none⟩:=fun W i j v h=>World.cell?_setCell_other W ⟨b,i,none⟩ ⟨b,j,none⟩ v (fun e=>by injection e with _ e2;exact h e2)
 refine leaves_cons (f:=119) (args:=#[.pointer (some ⟨b,0,none⟩),.bool true]) (by simp) (by simp [go_sem]) ?_
 refine (qsp ⟨b,0,none⟩ (.int .u32 0) .returning _ ?_ (by simp [k3])).mono ?_
 ·exact (so _ 4 0 _ (by decide)).trans ((so _ 3 0 _ (by decide)).trans ((k1 0 (by decide)).trans d0))
 rintro e u' w'' ⟨rfl,rfl,rfl⟩
 refine leaves_cons (f:=118) (args:=#[.pointer (some ⟨b,1,none⟩)]) (by simp [settle]) (by simp [go_sem]) ?_
 refine (qv4 ⟨b,1,none⟩ _ _ ?_ (by simp [k3])).mono ?_
 ·refine (so _ 0 1 _ (by decide)).trans ?_
  rw [World.cell?_drew]
  exact (so _ 4 1 _ (by decide)).trans ((so _ 3 1 _ (by decide)).trans k2)
 rintro e u' w'' ⟨rfl,rfl,rfl⟩
 have hB2:Built w b (((((W1.setCell ⟨b,3,none⟩ (.iface 173 (.pointer (some ⟨N,0,none⟩)))).setCell ⟨b,4,none⟩ (.slice none 0 0)).drew.setCell ⟨b,0,none⟩ (.int .u32 1))).setCell ⟨b,1,none⟩ (.int .i32 0)):=by
  have hZ:=(((((((Below.refl 0 w).setCell (p:=⟨b,1,none⟩) (Nat.zero_le _) (.int .i32 1)).trans (hB.mono (Nat.zero_le _))).setCell (p:=⟨b,3,none⟩) (Nat.zero_le _) (.iface 173 (.pointer (some ⟨N,0,none⟩)))).setCell (p:=⟨b,4,none⟩) (Nat.zero_le _) (.slice none 0 0)).drew).setCell (p:=⟨b,0,none⟩) (Nat.zero_le _) (.int .u32 1)).setCell (p:=⟨b,1,none⟩) (Nat.zero_le _) (.int .i32 0)
  refine ⟨⟨N,q,r1,r2,c1,c2,((((hR.set ⟨b,3,none⟩ hb _).set ⟨b,4,none⟩ hb _).drew).set ⟨b,0,none⟩ hb _).set ⟨b,1,none⟩ hb _,?_⟩,?_,?_,?_,?_,?_⟩
  ·refine (so _ 1 3 _ (by decide)).trans ((so _ 0 3 _ (by decide)).trans ?_)
   rw [World.cell?_drew]
   exact (so _ 4 3 _ (by decide)).trans (World.cell?_setCell_same W1 ⟨b,3,none⟩ _ ((k1 3 (by decide)).trans d3))
  ·exact hZ.os
  ·exact hZ.tape
  ·exact hZ.output
  ·exact hZ.size
  ·intro k hk hne
   rw [Below.heap_setCell _ _ _ _ hne,Below.heap_setCell _ _ _ _ hne]
   show ((W1.setCell _ _).setCell _ _).heap[k]?=_
   rw [Below.heap_setCell _ _ _ _ hne,Below.heap_setCell _ _ _ _ hne,hB.block k hk,Below.heap_setCell _ _ _ _ hne]
 simp [Leaves,settle,results,Tryz.results108]
 exact hB2
end Go.Proofs.YtognhcibcocbkaaGreatDoor
namespace Go.Proofs.YtognhcibcocbkaaGreatDoor
open Go.RowKit
set_option maxRecDepth 100000
def vInt:Value→Int
 |.int _ n=>n
 |_=>0
def isEsc (c:UInt8):Bool:=c==34||c==92
def zN (l:List UInt8):Nat:=l.countP isEsc
theorem qvu (c:UInt8) (l:List UInt8):zN (c::l)=zN l+(if isEsc c=true then 1 else 0):=by simp [zN,List.countP_cons]
theorem qvv:∀ l:List UInt8,zN l=Lib.countByte l 34+Lib.countByte l 92
 |[]=>rfl
 |c::l=>by
  have ih:=qvv l
  unfold Lib.countByte at *
  rw [qvu,ih,List.count_cons,List.count_cons]
  simp only [isEsc,Bool.or_eq_true,beq_iff_eq]
  by_cases h1:c=34
  ·subst h1;simp;omega
  ·by_cases h2:c=92
   ·subst h2;simp;omega
   ·simp [h1,h2]
theorem q68:∀ l:List UInt8,(esc l).length=l.length+zN l
 |[]=>rfl
 |c::l=>by
  have ih:=q68 l
  rw [qvu]
  simp only [esc,isEsc,Bool.or_eq_true,beq_iff_eq]
  split
  ·simp only [List.length_cons,ih];omega
  ·simp only [List.length_cons,ih];omega
theorem zN_le:∀ l:List UInt8,zN l≤l.length:=fun l=>List.countP_le_length
theorem qvw (l:List UInt8) (k:Nat) (c:UInt8) (hk:k<l.length) (hc:l[k]=c):zN (l.take (k+1))=zN (l.take k)+(if isEsc c=true then 1 else 0):=by
 rw [List.take_succ_eq_append_getElem hk,hc]
 simp [zN,List.countP_append,List.countP_cons]
theorem q69:∀ l:List UInt8,zN l=0→esc l=l
 |[],_=>rfl
 |c::l,h=>by
  rw [qvu] at h
  simp only [isEsc,Bool.or_eq_true,beq_iff_eq] at h
  split at h
  ·omega
  ·rename_i hc
   simp only [esc,if_neg hc,q69 l (by omega)]
theorem Rpl.below {lo:Nat} {w w':World} {N q r1 r2 c1 c2 B:Nat} (h:Rpl lo w N q r1 r2 c1 c2) (hb:Below B w w') (hB:w.heap.size≤B):Rpl lo w' N q r1 r2 c1 c2:=by
 have ho:∀ {k j v},w.cell? ⟨k,j,none⟩=some v→w'.cell? ⟨k,j,none⟩=some v:=fun {k j v} hc=>(hb.cell (p:=⟨k,j,none⟩) (Nat.lt_of_lt_of_le (q4i hc) hB)).trans hc
 obtain ⟨l1,l2,l3,l4,a1,a2,a3,a4,a5,a6,a7,a8,a9,a10⟩:=h
 exact ⟨l1,l2,l3,l4,ho a1,ho a2,ho a3,fun j x y z=>ho (a4 j x y z),ho a5,ho a6,ho a7,ho a8,ho a9,ho a10⟩
def ptN (a z:Nat):Nat→Nat
 |0=>0
 |1=>a
 |_=>z
theorem q9j:(Tryz.prog.info? 5).map (fun i=>(i.zero,i.size,i.bytes))=some (some (.int .u8 0),1,1):=by kernel_rfl
def bufC (l:List UInt8) (m:Nat):List Value:=l.map (fun b=>Value.int .u8 b.toNat)++List.replicate (m - l.length) (.int .u8 0)
theorem q67:∀ a b:List UInt8,esc (a++b)=esc a++esc b
 |[],_=>rfl
 |c::a,b=>by
  simp only [List.cons_append,esc]
  split <;> simp [q67 a b]
theorem q6a (l:List UInt8) (k:Nat) (c:UInt8) (hk:k<l.length) (hc:l[k]=c):esc (l.take (k+1))=esc (l.take k)++esc [c]∧(esc (l.take k)).length+(esc [c]).length≤l.length+zN l:=by
 have e:l.take (k+1)=l.take k++[c]:=by rw [List.take_succ_eq_append_getElem hk,hc]
 refine ⟨by rw [e,q67],?_⟩
 rw [←q68 l,←List.length_append,←q67,←e]
 conv=>rhs;rw [←List.take_append_drop (k+1) l,q67,List.length_append]
 omega
theorem q3n (l:List UInt8) (m:Nat) (h:l.length≤m):(bufC l m).length=m:=by
 unfold bufC
 simp
 omega
theorem q3p (l c:List UInt8) (m:Nat) (h:l.length+c.length≤m):Go.splice (bufC l m) l.length (c.map fun b=>Value.int .u8 b.toNat)=bufC (l++c) m:=by
 unfold Go.splice bufC
 rw [List.take_append_of_le_length (by simp),List.take_of_length_le (by simp),List.drop_append]
 simp only [List.length_map,List.map_append,List.length_append,List.append_assoc]
 rw [List.drop_eq_nil_of_le (by simp),List.nil_append,List.drop_replicate]
 congr 3
 omega
theorem q3o (L:List Value) (j:Nat) (v:Value) (_:Unit) (h:j<L.length):L.toArray.setIfInBounds j v=(Go.splice L j [v]).toArray:=by
 apply Array.toList_inj.1
 rw [Array.toList_setIfInBounds]
 unfold Go.splice
 simp only [List.length_singleton,List.singleton_append]
 rw [List.set_eq_take_append_cons_drop,if_pos h]
theorem qbt (m:Nat):madeCells #[Value.int .u8 0] m=(List.replicate m (Value.int .u8 0)).toArray:=by
 apply Array.ext
 ·simp [madeCells]
 ·intro i h1 h2
  simp [madeCells,Nat.mod_one]
theorem q3c {B:Nat} {a w:World} (h:Below B a w) (n:Nat):Below B a (w.drewN n):=⟨h.os,h.tape,h.output,h.size,h.block⟩
set_option maxHeartbeats 8000000 in
theorem qgm (lo N q r1 r2 c1 c2:Nat) (w:World) (hR:Rpl lo w N q r1 r2 c1 c2) (s:ByteArray) (hs:s.size<4294967281) :
  Calls Tryz.prog 186 #[.pointer (some ⟨N,0,none⟩),.string s] w fun e w'=>e=.returned (.string ⟨(esc s.data.toList).toArray⟩)∧Below w.heap.size w w':=by
 have hcz:=qvv s.data.toList
 have hzl:=zN_le s.data.toList
 have hsl:s.data.toList.length=s.size:=by rw [Array.length_toList];rfl
 rw [hsl] at hzl
 generalize hz:zN s.data.toList=z at hcz hzl
 generalize ha:Lib.countByte s.data.toList 34=a at hcz
 generalize hb:Lib.countByte s.data.toList 92=b at hcz
 have hk1:=lays138
 have e34:∀ h,(((⟨#[34]⟩:ByteArray)[0]'h).toNat:Int)=34:=fun _=>rfl
 have e92:∀ h,(((⟨#[92]⟩:ByteArray)[0]'h).toNat:Int)=92:=fun _=>rfl
 by_cases h16:16≤s.size
 ·go_enter Tryz.func186,Tryz.ntmps186
  have hle:decide ((16:Int)≤(s.size:Int))=true:=by simp;omega
  have hall:=hR.all
  go_wp2
  go_loopw [5,6,32] (fun u5 u6 u32 wr=>∃ k:Nat,k≤2∧u32=.int .i64 k∧u5=.int .i64 ((s.size+ptN a z k:Nat))∧u6=.bool (decide (ptN a z k≠0))∧Rpl lo wr N q r1 r2 c1 c2∧Below w.heap.size w wr∧w.heap.size≤wr.heap.size)
   (fun _ _ u32 _=>2 - (vInt u32).toNat)
  case atStart=>exact ⟨0,by omega,rfl,by simp [ptN],by simp [ptN],hR,Below.refl _ _,Nat.le_refl _⟩
  case round =>
   obtain ⟨k,hk,rfl,rfl,rfl,hRr,hbr,hsr⟩:=hrel
   obtain ⟨l1,l2,l3,l4,p1,p2,p3,p4,p5,p6,p7,p8,p9,p10⟩:=hRr
   have hk':k=0∨k=1∨k=2:=by omega
   have q0:ptN a z 0=0:=rfl
   have q1:ptN a z 1=a:=rfl
   have q2:ptN a z 2=z:=rfl
   rcases hk' with rfl|rfl|rfl
   ·rw [q0]
    by_cases ha0:a=0
    ·go_wp2_with (go_at_call 188;refine (Any.strings_Count_one lays138 s 34 _).mono ?_;rintro e w' ⟨rfl,rfl⟩;rw [ha,ha0])
     go_roundw
     case rel=>exact ⟨1,by omega,rfl,by simp [ptN,ha0],by simp [ptN,ha0],⟨l1,l2,l3,l4,p1,p2,p3,p4,p5,p6,p7,p8,p9,p10⟩,hbr,hsr⟩
     case measure=>simp [vInt]
    ·have ha':(((a:Nat):Int) != 0)=true:=by simp [ha0]
     go_wp2_with (go_at_call 188;refine (Any.strings_Count_one lays138 s 34 _).mono ?_;rintro e w' ⟨rfl,rfl⟩;rw [ha])
     go_quiet (fail)
     go_wp2
     exact ⟨⟨1,by omega,rfl,by simp [q1],by simp [q1,ha0],⟨l1,l2,l3,l4,p1,p2,p3,p4,p5,p6,p7,p8,p9,p10⟩,q3c hbr _,hsr⟩,by simp [vInt]⟩
   ·rw [q1]
    by_cases hb0:b=0
    ·have hza:z=a:=by omega
     go_wp2_with (go_at_call 188;refine (Any.strings_Count_one lays138 s 92 _).mono ?_;rintro e w' ⟨rfl,rfl⟩;rw [hb,hb0])
     go_roundw
     case rel=>exact ⟨2,by omega,rfl,by simp [ptN,hza],by simp [ptN,hza],⟨l1,l2,l3,l4,p1,p2,p3,p4,p5,p6,p7,p8,p9,p10⟩,hbr,hsr⟩
     case measure=>simp [vInt]
    ·have hb':(((b:Nat):Int) != 0)=true:=by simp [hb0]
     go_wp2_with (go_at_call 188;refine (Any.strings_Count_one lays138 s 92 _).mono ?_;rintro e w' ⟨rfl,rfl⟩;rw [hb])
     go_quiet (fail)
     go_wp2
     have hz0:z≠0:=by omega
     have hzz:(z:Int)=a+b:=by omega
     exact ⟨⟨2,by omega,rfl,by simp [q2,hzz,Int.add_assoc],by simp [q2,hz0],⟨l1,l2,l3,l4,p1,p2,p3,p4,p5,p6,p7,p8,p9,p10⟩,q3c hbr _,hsr⟩,by simp [vInt]⟩
   ·rw [q2]
    by_cases hz0:z=0
    ·subst hz0
     go_wp2
     go_ret
     exact ⟨by rw [q69 _ hz];rfl,hbr⟩
    ·have hzd:decide (z≠0)=true:=by simp [hz0]
     rw [hzd]
     clear hcz
     obtain ⟨m,hm⟩:∃ m,s.size+z=m:=⟨_,rfl⟩
     rw [hm]
     have hmk:=run_make_row' (P:=Tryz.prog) 87 5 (.int .u8 0) 1 Tryz.underlying87 q9j rfl .i64 .i64 m (by omega) (by omega)
     go_wp2
     have hRw:Rpl lo wr N q r1 r2 c1 c2:=⟨l1,l2,l3,l4,p1,p2,p3,p4,p5,p6,p7,p8,p9,p10⟩
     clear p1 p2 p3 p4 p5 p6 p7 p8 p9 p10
     obtain ⟨g,hg⟩:∃ g,wr.heap.size=g:=⟨_,rfl⟩
     go_loopw [13,14] (fun u13 u14 w2=>∃ k:Nat,k≤s.size∧u14=.int .i64 k∧u13=.int .i64 ((esc (s.data.toList.take k)).length:Nat)∧w2.heap[g]?=some (.cells (bufC (esc (s.data.toList.take k)) m).toArray 5 (0,0))∧Below g wr w2∧g<w2.heap.size)
      (fun _ u14 _=>s.size - (vInt u14).toNat)
     case atStart=>
      refine ⟨0,by omega,rfl,rfl,?_,?_,?_⟩
      ·rw [←hg];exact (MapKept.heap_alloc wr _).1.trans (by rw [qbt];rfl)
      ·rw [←hg];exact (Below.refl _ wr).alloc (Nat.le_refl _) _
      ·rw [←hg];simp
     case round =>
      obtain ⟨k,hk,rfl,rfl,hbuf,hbw,hgs⟩:=hrel
      have hR2:=hRw.below hbw (by omega)
      obtain ⟨_,_,_,_,p1,p2,p3,p4,p5,p6,p7,p8,p9,p10⟩:=hR2
      rcases Nat.lt_or_ge k s.size with hkl|hke
      ·have hlt:decide ((k:Int)<(s.size:Int))=true:=by simp;omega
       obtain ⟨c,hcq⟩:∃ c,s[k]=c:=⟨_,rfl⟩
       have hc256:c.toNat<256:=UInt8.toNat_lt c
       by_cases hc34:c=34
       ·subst hc34
        have hj:=q6a s.data.toList k 34 (by rw [hsl];exact hkl) (by rw [←hcq];rfl)
        obtain ⟨hj1,hj2⟩:=hj
        rw [hsl,hz,hm] at hj2
        generalize hjd:(esc (List.take k s.data.toList)).length=j at hj2 ⊢
        have e1:(esc [(34:UInt8)]).length=2:=rfl
        rw [e1] at hj2
        have hjm:j≤m:=by omega
        have hjm':(j:Int)≤(m:Int):=by omega
        go_wp2
        have hmj:¬ m=j:=by omega
        have hsrc:∀ (i:Nat) v,([Value.int .u8 92,.int .u8 34]:List Value)[i]?=some v→wr.drew.cell? ((⟨r1,0,none⟩:Addr).add i)=some v:=fun i v hv=>by
         match i,hv with
         |0,hv=>injection hv with hv;subst hv;exact p7
         |1,hv=>injection hv with hv;subst hv;exact p8
        have hmin:Nat.min 2 (m - j)=2:=by simp [Nat.min_def];omega
        have hfit:j+2≤(bufC (esc (List.take k s.data.toList)) m).length:=by rw [q3n _ _ (by omega)];exact hj2
        go_region_law (refine step_copy_splice rfl (.tmp 105) (.tmp 111) 87 87 rfl 5 Tryz.underlying87 (by kernel_rfl) _ _ _ _ _ _ rfl rfl g j _ 5 hbuf [.int .u8 92,.int .u8 34] hmin.symm (fun _=>⟨rfl,_,rfl,hsrc⟩) hfit (by intro v hv;simp at hv;rcases hv with rfl|rfl <;> rfl) g _ hbw.drew (Nat.le_refl _) ?_;intro w4 hg4 hb4)
        go_wp2
        have hg4':w4.heap[g]?=some (.cells (bufC (esc (List.take (k+1) s.data.toList)) m).toArray 5 (0,0)):=by
         rw [hj1,←q3p _ _ _ (by rw [hjd,e1];exact hj2),hjd]
         exact hg4
        have hgs4:g<w4.heap.size:=(Array.getElem?_eq_some_iff.1 hg4').1
        have hju:(j:Int)+2=((esc (List.take (k+1) s.data.toList)).length:Nat):=by rw [hj1,List.length_append,hjd,e1];rfl
        subst hg
        refine ⟨⟨_,_,_,_,_,_,_,_,_,_,_,_,_,_,_,_,_,_,_,_,_,_,_,_,_,_,_,_,_,_,_,_,_,_,_,_,_,⟨k+1,by omega,?_,?_,hg4',hb4,hgs4⟩,rfl⟩,?_⟩
        ·rfl
        ·rw [←hju]
        ·show s.size - ((k:Int)+1).toNat<s.size - (k:Int).toNat
         omega
       by_cases hc92:c=92
       ·subst hc92
        have hj:=q6a s.data.toList k 92 (by rw [hsl];exact hkl) (by rw [←hcq];rfl)
        obtain ⟨hj1,hj2⟩:=hj
        rw [hsl,hz,hm] at hj2
        generalize hjd:(esc (List.take k s.data.toList)).length=j at hj2 ⊢
        have e1:(esc [(92:UInt8)]).length=2:=rfl
        rw [e1] at hj2
        have hjm:j≤m:=by omega
        have hjm':(j:Int)≤(m:Int):=by omega
        go_wp2
        have hmj:¬ m=j:=by omega
        have hsrc:∀ (i:Nat) v,([Value.int .u8 92,.int .u8 92]:List Value)[i]?=some v→wr.drew.cell? ((⟨r2,0,none⟩:Addr).add i)=some v:=fun i v hv=>by
         match i,hv with
         |0,hv=>injection hv with hv;subst hv;exact p9
         |1,hv=>injection hv with hv;subst hv;exact p10
        have hmin:Nat.min 2 (m - j)=2:=by simp [Nat.min_def];omega
        have hfit:j+2≤(bufC (esc (List.take k s.data.toList)) m).length:=by rw [q3n _ _ (by omega)];exact hj2
        go_region_law (refine step_copy_splice rfl (.tmp 105) (.tmp 111) 87 87 rfl 5 Tryz.underlying87 (by kernel_rfl) _ _ _ _ _ _ rfl rfl g j _ 5 hbuf [.int .u8 92,.int .u8 92] hmin.symm (fun _=>⟨rfl,_,rfl,hsrc⟩) hfit (by intro v hv;simp at hv;rcases hv with rfl|rfl <;> rfl) g _ hbw.drew (Nat.le_refl _) ?_;intro w4 hg4 hb4)
        go_wp2
        have hg4':w4.heap[g]?=some (.cells (bufC (esc (List.take (k+1) s.data.toList)) m).toArray 5 (0,0)):=by
         rw [hj1,←q3p _ _ _ (by rw [hjd,e1];exact hj2),hjd]
         exact hg4
        have hgs4:g<w4.heap.size:=(Array.getElem?_eq_some_iff.1 hg4').1
        have hju:(j:Int)+2=((esc (List.take (k+1) s.data.toList)).length:Nat):=by rw [hj1,List.length_append,hjd,e1];rfl
        subst hg
        refine ⟨⟨_,_,_,_,_,_,_,_,_,_,_,_,_,_,_,_,_,_,_,_,_,_,_,_,_,_,_,_,_,_,_,_,_,_,_,_,_,⟨k+1,by omega,?_,?_,hg4',hb4,hgs4⟩,rfl⟩,?_⟩
        ·rfl
        ·rw [←hju]
        ·show s.size - ((k:Int)+1).toNat<s.size - (k:Int).toNat
         omega
       have hj:=q6a s.data.toList k c (by rw [hsl];exact hkl) (by rw [←hcq];rfl)
       obtain ⟨hj1,hj2⟩:=hj
       rw [hsl,hz,hm] at hj2
       generalize hjd:(esc (List.take k s.data.toList)).length=j at hj2 ⊢
       have e0:esc [c]=[c]:=by simp [esc,hc34,hc92]
       rw [e0] at hj1 hj2
       have hj2':j+1≤m:=hj2
       have hjm:j<m:=by omega
       have hjm':(j:Int)<(m:Int):=by omega
       have hn34:¬ c.toNat=34:=fun e=>hc34 (UInt8.toNat_inj.1 e)
       have hn92:¬ c.toNat=92:=fun e=>hc92 (UInt8.toNat_inj.1 e)
       have hcell:=p4 c.toNat hc256 hn34 hn92
       have hbl:=q3n (esc (List.take k s.data.toList)) m (by omega)
       have hcj:∃ x,wr.cell? ⟨g,j,none⟩=some x:=by
        refine ⟨_,(cell_of_row wr g j _ 5 (0,0) hbuf).trans (Array.getElem?_eq_getElem (by simp;omega))⟩
       obtain ⟨x0,hcj⟩:=hcj
       have hfj:wr.frozen? ⟨g,j,none⟩=false:=by
        simp [World.frozen?,hbuf]
       go_wp2
       have hset:(wr.setCell ⟨g,j,none⟩ (.int .u8 c.toNat)).heap[g]?=some (.cells (bufC (esc (List.take (k+1) s.data.toList)) m).toArray 5 (0,0)):=by
        rw [heap_setCell_same wr g j _ 5 _ hbuf,hj1,←q3p _ _ _ (by rw [hjd];exact hj2),hjd]
        rw [q3o _ _ _ () (by rw [hbl];omega)]
        rfl
       have hju:(j:Int)+1=((esc (List.take (k+1) s.data.toList)).length:Nat):=by rw [hj1,List.length_append,hjd];rfl
       refine ⟨⟨k+1,by omega,rfl,by rw [hju],hset,hbw.setCell (p:=⟨g,j,none⟩) (Nat.le_refl _) _,(Array.getElem?_eq_some_iff.1 hset).1⟩,?_⟩
       show s.size - ((k:Int)+1).toNat<s.size - (k:Int).toNat
       omega
      ·have hlt:decide ((k:Int)<(s.size:Int))=false:=by simp;omega
       have hkn:k=s.size:=by omega
       rw [hkn,List.take_of_length_le (by omega)] at hbuf
       have hml:(esc s.data.toList).length=m:=by rw [q68,hsl,hz,hm]
       have hcv:(convert 87 9 (.slice (some ⟨g,0,none⟩) m m)).run Tryz.prog wr=.ok (.string ⟨(esc s.data.toList).toArray⟩) wr:=by
        have:=run_convert_bytes_back (P:=Tryz.prog) wr 87 9 5 ⟨g,0,none⟩ m (esc s.data.toList) Tryz.underlying87 Tryz.underlying5 Tryz.underlying9 (fun j hj=>by
         have e:(⟨g,0,none⟩:Addr).add j=⟨g,j,none⟩:=by unfold Addr.add;split <;> simp_all
         rw [e,cell_of_row wr g j _ 5 (0,0) hbuf]
         unfold bufC
         simp [List.getElem?_append_left,hj])
        rw [hml] at this
        exact this
       go_wp2
       go_ret
       exact ⟨rfl,hbr.trans (hbw.mono (by omega))⟩
 ·go_enter Tryz.func186,Tryz.ntmps186
  have hle:decide ((16:Int)≤(s.size:Int))=false:=by simp;omega
  have hall:=hR.all
  clear hcz ha hb
  go_wp2
  go_loopw [5,6,10] (fun u5 u6 u10 wr=>∃ k:Nat,k≤s.size∧u10=.int .i64 k∧u5=.int .i64 ((s.size+zN (s.data.toList.take k):Nat))∧u6=.bool (decide (zN (s.data.toList.take k)≠0))∧Rpl lo wr N q r1 r2 c1 c2∧Below w.heap.size w wr∧w.heap.size≤wr.heap.size)
   (fun _ _ u10 _=>s.size - (vInt u10).toNat)
  case atStart=>exact ⟨0,by omega,rfl,rfl,rfl,hR,Below.refl _ _,Nat.le_refl _⟩
  case round =>
   obtain ⟨k,hk,rfl,rfl,rfl,hRr,hbr,hsr⟩:=hrel
   obtain ⟨l1,l2,l3,l4,p1,p2,p3,p4,p5,p6,p7,p8,p9,p10⟩:=hRr
   rcases Nat.lt_or_ge k s.size with hkl|hke
   ·have hlt:decide ((k:Int)<(s.size:Int))=true:=by simp;omega
    obtain ⟨c,hcq⟩:∃ c,s[k]=c:=⟨_,rfl⟩
    have hc256:c.toNat<256:=UInt8.toNat_lt c
    have hzt:=qvw s.data.toList k c (by rw [hsl];exact hkl) (by rw [←hcq];rfl)
    have hyb:zN (List.take k s.data.toList)≤s.size:=by have:=zN_le (List.take k s.data.toList);rw [List.length_take] at this;omega
    generalize hyd:zN (List.take k s.data.toList)=y at hzt hyb ⊢
    by_cases hc34:c=34
    ·subst hc34
     have hzt':zN (List.take (k+1) s.data.toList)=y+1:=hzt
     go_wp2
     exact ⟨⟨k+1,by omega,rfl,by rw [hzt'];simp [Int.add_assoc],by rw [hzt'];simp,⟨l1,l2,l3,l4,p1,p2,p3,p4,p5,p6,p7,p8,p9,p10⟩,hbr,hsr⟩,by simp [vInt];omega⟩
    by_cases hc92:c=92
    ·subst hc92
     have hzt':zN (List.take (k+1) s.data.toList)=y+1:=hzt
     go_wp2
     exact ⟨⟨k+1,by omega,rfl,by rw [hzt'];simp [Int.add_assoc],by rw [hzt'];simp,⟨l1,l2,l3,l4,p1,p2,p3,p4,p5,p6,p7,p8,p9,p10⟩,hbr,hsr⟩,by simp [vInt];omega⟩
    have hzt':zN (List.take (k+1) s.data.toList)=y:=by
     rw [hzt];simp [isEsc,hc34,hc92]
    have hn34:¬ c.toNat=34:=fun e=>hc34 (UInt8.toNat_inj.1 e)
    have hn92:¬ c.toNat=92:=fun e=>hc92 (UInt8.toNat_inj.1 e)
    have hcell:=p4 c.toNat hc256 hn34 hn92
    go_wp2
    exact ⟨⟨k+1,by omega,rfl,by rw [hzt'],by rw [hzt'],⟨l1,l2,l3,l4,p1,p2,p3,p4,p5,p6,p7,p8,p9,p10⟩,hbr,hsr⟩,by simp [vInt];omega⟩
   ·have hlt:decide ((k:Int)<(s.size:Int))=false:=by simp;omega
    have hkn:k=s.size:=by omega
    subst hkn
    rw [List.take_of_length_le (by omega),hz]
    by_cases hz0:z=0
    ·subst hz0
     go_wp2
     go_ret
     exact ⟨by rw [q69 _ hz];rfl,hbr⟩
    ·have hzd:decide (z≠0)=true:=by simp [hz0]
     rw [hzd]
     obtain ⟨m,hm⟩:∃ m,s.size+z=m:=⟨_,rfl⟩
     rw [hm]
     have hmk:=run_make_row' (P:=Tryz.prog) 87 5 (.int .u8 0) 1 Tryz.underlying87 q9j rfl .i64 .i64 m (by omega) (by omega)
     go_wp2
     have hRw:Rpl lo wr N q r1 r2 c1 c2:=⟨l1,l2,l3,l4,p1,p2,p3,p4,p5,p6,p7,p8,p9,p10⟩
     clear p1 p2 p3 p4 p5 p6 p7 p8 p9 p10
     obtain ⟨g,hg⟩:∃ g,wr.heap.size=g:=⟨_,rfl⟩
     go_loopw [13,14] (fun u13 u14 w2=>∃ k:Nat,k≤s.size∧u14=.int .i64 k∧u13=.int .i64 ((esc (s.data.toList.take k)).length:Nat)∧w2.heap[g]?=some (.cells (bufC (esc (s.data.toList.take k)) m).toArray 5 (0,0))∧Below g wr w2∧g<w2.heap.size)
      (fun _ u14 _=>s.size - (vInt u14).toNat)
     case atStart=>
      refine ⟨0,by omega,rfl,rfl,?_,?_,?_⟩
      ·rw [←hg];exact (MapKept.heap_alloc wr _).1.trans (by rw [qbt];rfl)
      ·rw [←hg];exact (Below.refl _ wr).alloc (Nat.le_refl _) _
      ·rw [←hg];simp
     case round =>
      obtain ⟨k,hk,rfl,rfl,hbuf,hbw,hgs⟩:=hrel
      have hR2:=hRw.below hbw (by omega)
      obtain ⟨_,_,_,_,p1,p2,p3,p4,p5,p6,p7,p8,p9,p10⟩:=hR2
      rcases Nat.lt_or_ge k s.size with hkl|hke
      ·have hlt:decide ((k:Int)<(s.size:Int))=true:=by simp;omega
       obtain ⟨c,hcq⟩:∃ c,s[k]=c:=⟨_,rfl⟩
       have hc256:c.toNat<256:=UInt8.toNat_lt c
       by_cases hc34:c=34
       ·subst hc34
        have hj:=q6a s.data.toList k 34 (by rw [hsl];exact hkl) (by rw [←hcq];rfl)
        obtain ⟨hj1,hj2⟩:=hj
        rw [hsl,hz,hm] at hj2
        generalize hjd:(esc (List.take k s.data.toList)).length=j at hj2 ⊢
        have e1:(esc [(34:UInt8)]).length=2:=rfl
        rw [e1] at hj2
        have hjm:j≤m:=by omega
        have hjm':(j:Int)≤(m:Int):=by omega
        go_wp2
        have hmj:¬ m=j:=by omega
        have hsrc:∀ (i:Nat) v,([Value.int .u8 92,.int .u8 34]:List Value)[i]?=some v→wr.drew.cell? ((⟨r1,0,none⟩:Addr).add i)=some v:=fun i v hv=>by
         match i,hv with
         |0,hv=>injection hv with hv;subst hv;exact p7
         |1,hv=>injection hv with hv;subst hv;exact p8
        have hmin:Nat.min 2 (m - j)=2:=by simp [Nat.min_def];omega
        have hfit:j+2≤(bufC (esc (List.take k s.data.toList)) m).length:=by rw [q3n _ _ (by omega)];exact hj2
        go_region_law (refine step_copy_splice rfl (.tmp 105) (.tmp 111) 87 87 rfl 5 Tryz.underlying87 (by kernel_rfl) _ _ _ _ _ _ rfl rfl g j _ 5 hbuf [.int .u8 92,.int .u8 34] hmin.symm (fun _=>⟨rfl,_,rfl,hsrc⟩) hfit (by intro v hv;simp at hv;rcases hv with rfl|rfl <;> rfl) g _ hbw.drew (Nat.le_refl _) ?_;intro w4 hg4 hb4)
        go_wp2
        have hg4':w4.heap[g]?=some (.cells (bufC (esc (List.take (k+1) s.data.toList)) m).toArray 5 (0,0)):=by
         rw [hj1,←q3p _ _ _ (by rw [hjd,e1];exact hj2),hjd]
         exact hg4
        have hgs4:g<w4.heap.size:=(Array.getElem?_eq_some_iff.1 hg4').1
        have hju:(j:Int)+2=((esc (List.take (k+1) s.data.toList)).length:Nat):=by rw [hj1,List.length_append,hjd,e1];rfl
        subst hg
        refine ⟨⟨_,_,_,_,_,_,_,_,_,_,_,_,_,_,_,_,_,_,_,_,_,_,_,_,_,_,_,_,_,_,_,_,_,_,_,_,_,⟨k+1,by omega,?_,?_,hg4',hb4,hgs4⟩,rfl⟩,?_⟩
        ·rfl
        ·rw [←hju]
        ·show s.size - ((k:Int)+1).toNat<s.size - (k:Int).toNat
         omega
       by_cases hc92:c=92
       ·subst hc92
        have hj:=q6a s.data.toList k 92 (by rw [hsl];exact hkl) (by rw [←hcq];rfl)
        obtain ⟨hj1,hj2⟩:=hj
        rw [hsl,hz,hm] at hj2
        generalize hjd:(esc (List.take k s.data.toList)).length=j at hj2 ⊢
        have e1:(esc [(92:UInt8)]).length=2:=rfl
        rw [e1] at hj2
        have hjm:j≤m:=by omega
        have hjm':(j:Int)≤(m:Int):=by omega
        go_wp2
        have hmj:¬ m=j:=by omega
        have hsrc:∀ (i:Nat) v,([Value.int .u8 92,.int .u8 92]:List Value)[i]?=some v→wr.drew.cell? ((⟨r2,0,none⟩:Addr).add i)=some v:=fun i v hv=>by
         match i,hv with
         |0,hv=>injection hv with hv;subst hv;exact p9
         |1,hv=>injection hv with hv;subst hv;exact p10
        have hmin:Nat.min 2 (m - j)=2:=by simp [Nat.min_def];omega
        have hfit:j+2≤(bufC (esc (List.take k s.data.toList)) m).length:=by rw [q3n _ _ (by omega)];exact hj2
        go_region_law (refine step_copy_splice rfl (.tmp 105) (.tmp 111) 87 87 rfl 5 Tryz.underlying87 (by kernel_rfl) _ _ _ _ _ _ rfl rfl g j _ 5 hbuf [.int .u8 92,.int .u8 92] hmin.symm (fun _=>⟨rfl,_,rfl,hsrc⟩) hfit (by intro v hv;simp at hv;rcases hv with rfl|rfl <;> rfl) g _ hbw.drew (Nat.le_refl _) ?_;intro w4 hg4 hb4)
        go_wp2
        have hg4':w4.heap[g]?=some (.cells (bufC (esc (List.take (k+1) s.data.toList)) m).toArray 5 (0,0)):=by
         rw [hj1,←q3p _ _ _ (by rw [hjd,e1];exact hj2),hjd]
         exact hg4
        have hgs4:g<w4.heap.size:=(Array.getElem?_eq_some_iff.1 hg4').1
        have hju:(j:Int)+2=((esc (List.take (k+1) s.data.toList)).length:Nat):=by rw [hj1,List.length_append,hjd,e1];rfl
        subst hg
        refine ⟨⟨_,_,_,_,_,_,_,_,_,_,_,_,_,_,_,_,_,_,_,_,_,_,_,_,_,_,_,_,_,_,_,_,_,_,_,_,_,⟨k+1,by omega,?_,?_,hg4',hb4,hgs4⟩,rfl⟩,?_⟩
        ·rfl
        ·rw [←hju]
        ·show s.size - ((k:Int)+1).toNat<s.size - (k:Int).toNat
         omega
       have hj:=q6a s.data.toList k c (by rw [hsl];exact hkl) (by rw [←hcq];rfl)
       obtain ⟨hj1,hj2⟩:=hj
       rw [hsl,hz,hm] at hj2
       generalize hjd:(esc (List.take k s.data.toList)).length=j at hj2 ⊢
       have e0:esc [c]=[c]:=by simp [esc,hc34,hc92]
       rw [e0] at hj1 hj2
       have hj2':j+1≤m:=hj2
       have hjm:j<m:=by omega
       have hjm':(j:Int)<(m:Int):=by omega
       have hn34:¬ c.toNat=34:=fun e=>hc34 (UInt8.toNat_inj.1 e)
       have hn92:¬ c.toNat=92:=fun e=>hc92 (UInt8.toNat_inj.1 e)
       have hcell:=p4 c.toNat hc256 hn34 hn92
       have hbl:=q3n (esc (List.take k s.data.toList)) m (by omega)
       have hcj:∃ x,wr.cell? ⟨g,j,none⟩=some x:=by
        refine ⟨_,(cell_of_row wr g j _ 5 (0,0) hbuf).trans (Array.getElem?_eq_getElem (by simp;omega))⟩
       obtain ⟨x0,hcj⟩:=hcj
       have hfj:wr.frozen? ⟨g,j,none⟩=false:=by
        simp [World.frozen?,hbuf]
       go_wp2
       have hset:(wr.setCell ⟨g,j,none⟩ (.int .u8 c.toNat)).heap[g]?=some (.cells (bufC (esc (List.take (k+1) s.data.toList)) m).toArray 5 (0,0)):=by
        rw [heap_setCell_same wr g j _ 5 _ hbuf,hj1,←q3p _ _ _ (by rw [hjd];exact hj2),hjd]
        rw [q3o _ _ _ () (by rw [hbl];omega)]
        rfl
       have hju:(j:Int)+1=((esc (List.take (k+1) s.data.toList)).length:Nat):=by rw [hj1,List.length_append,hjd];rfl
       refine ⟨⟨k+1,by omega,rfl,by rw [hju],hset,hbw.setCell (p:=⟨g,j,none⟩) (Nat.le_refl _) _,(Array.getElem?_eq_some_iff.1 hset).1⟩,?_⟩
       show s.size - ((k:Int)+1).toNat<s.size - (k:Int).toNat
       omega
      ·have hlt:decide ((k:Int)<(s.size:Int))=false:=by simp;omega
       have hkn:k=s.size:=by omega
       rw [hkn,List.take_of_length_le (by omega)] at hbuf
       have hml:(esc s.data.toList).length=m:=by rw [q68,hsl,hz,hm]
       have hcv:(convert 87 9 (.slice (some ⟨g,0,none⟩) m m)).run Tryz.prog wr=.ok (.string ⟨(esc s.data.toList).toArray⟩) wr:=by
        have:=run_convert_bytes_back (P:=Tryz.prog) wr 87 9 5 ⟨g,0,none⟩ m (esc s.data.toList) Tryz.underlying87 Tryz.underlying5 Tryz.underlying9 (fun j hj=>by
         have e:(⟨g,0,none⟩:Addr).add j=⟨g,j,none⟩:=by unfold Addr.add;split <;> simp_all
         rw [e,cell_of_row wr g j _ 5 (0,0) hbuf]
         unfold bufC
         simp [List.getElem?_append_left,hj])
        rw [hml] at this
        exact this
       go_wp2
       go_ret
       exact ⟨rfl,hbr.trans (hbw.mono (by omega))⟩
end Go.Proofs.YtognhcibcocbkaaGreatDoor
