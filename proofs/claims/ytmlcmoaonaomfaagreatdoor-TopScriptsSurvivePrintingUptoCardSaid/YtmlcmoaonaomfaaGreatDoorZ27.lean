/- (*strings.byteStringReplacer).Replace, at the replacer of rules.quote. -/
import Derived.Test.YtmlcmoaonaomfaaGreatDoorZ26
import Derived.LoopTactic
import Derived.Deep.OwnRows
import Derived.Laws.CopyOwn
import Derived.Deep.RegionLaw
import Derived.Laws.AppendOwn
import Derived.RangeFuncRecord
import Derived.RangeFuncSeq
import Derived.TacticsIn
import Derived.BigFrameIn
import Derived.LoopNIn
import Derived.RangeFuncLeaves
import Derived.Lib.SlBytesConst
import Derived.BigRegionIn
import Derived.Shelf.RegionOpen
import Derived.RangeFuncCalls
namespace Go.Proofs.YtmlcmoaonaomfaaGreatDoor
open Go.RowKit
set_option maxRecDepth 100000
def vInt:Value->Int
 |.int _ n=>n
 |_=>0
def isEsc (c:UInt8):Bool:=c==34||c==92
def zN (l:List UInt8):Nat:=l.countP isEsc
theorem q1ke (c:UInt8) (l:List UInt8):zN (c::l)=zN l+(if isEsc c=true then 1 else 0):=by simp [zN,List.countP_cons]
theorem q1kf:∀ l:List UInt8,zN l=Lib.countByte l 34+Lib.countByte l 92
 |[]=>rfl
 |c::l=>by
  have ih:=q1kf l;unfold Lib.countByte at *;rw [q1ke,ih,List.count_cons,List.count_cons];simp only [isEsc,y29q,beq_iff_eq];by_cases h1:c=34
  ·subst h1;simp;omega
  ·by_cases h2:c=92
   ·subst h2;simp;omega
   ·simp [h1,h2]
theorem qei:∀ l:List UInt8,(esc l).length=l.length+zN l
 |[]=>rfl
 |c::l=>by
  have ih:=qei l;rw [q1ke];simp only [esc,isEsc,y29q,beq_iff_eq];split
  ·simp only [x9q,ih];omega
  ·simp only [x9q,ih];omega
theorem zN_le:∀ l:List UInt8,zN l<=l.length:=λ_l=>List.countP_le_length
theorem q1kg (l:List UInt8) (k:Nat) (c:UInt8) (hk:k<l.length) (hc:l[k]=c):zN (l.take (k+1))=zN (l.take k)+(if isEsc c=true then 1 else 0):=by rw [List.take_succ_eq_append_getElem hk,hc];simp [zN,List.countP_append,List.countP_cons]
theorem qej:∀ l:List UInt8,zN l=0->esc l=l
 |[],_=>rfl
 |c::l,h=>by
  rw [q1ke] at h;simp only [isEsc,y29q,beq_iff_eq] at h;split at h
  ·omega
  ·rename_i hc
   simp only [esc,if_neg hc,qej l (by omega)]
theorem Rpl.below {lo:Nat} {w w':World} {N q r1 r2 c1 c2 B:Nat} (h:Rpl lo w N q r1 r2 c1 c2) (hb:Below B w w') (hB:w.heap.size<=B):Rpl lo w' N q r1 r2 c1 c2:=by have ho:∀ {k j v},w.cell? ⟨k,j,none⟩=some v->w'.cell? ⟨k,j,none⟩=some v:=λ{k j v} hc=>(hb.cell (p:=⟨k,j,none⟩) (Nat.lt_of_lt_of_le (q9s hc) hB)).trans hc;obtain ⟨l1,l2,l3,l4,a1,a2,a3,a4,a5,a6,a7,a8,a9,a10⟩:=h;exact ⟨l1,l2,l3,l4,ho a1,ho a2,ho a3,λj x y z=>ho (a4 j x y z),ho a5,ho a6,ho a7,ho a8,ho a9,ho a10⟩
def ptN (a z:Nat):Nat->Nat
 |0=>0
 |1=>a
 |_=>z
theorem qpb:(Tryz.prog.info? 5).map (λi=>(i.zero,i.size,i.bytes))=some (some (.int .u8 0),1,1):=by kernel_rfl
def bufC (l:List UInt8) (m:Nat):List Value:=l.map (λb=>Value.int .u8 b.toNat)++List.replicate (m - l.length) (.int .u8 0)
theorem qeh:∀ a b:List UInt8,esc (a++b)=esc a++esc b
 |[],_=>rfl
 |c::a,b=>by simp only [y8q,esc];split <;> simp [qeh a b]
theorem qek (l:List UInt8) (k:Nat) (c:UInt8) (hk:k<l.length) (hc:l[k]=c):esc (l.take (k+1))=esc (l.take k)++esc [c]/\(esc (l.take k)).length+(esc [c]).length<=l.length+zN l:=by
 have e:l.take (k+1)=l.take k++[c]:=by rw [List.take_succ_eq_append_getElem hk,hc]
 refine ⟨by rw [e,qeh],?_⟩
 rw [←qei l,←x12q,←qeh,←e]
 conv=>rhs;rw [←List.take_append_drop (k+1) l,qeh,x12q]
 omega
theorem q8f (l:List UInt8) (m:Nat) (h:l.length<=m):(bufC l m).length=m:=by unfold bufC;simp;omega
theorem q8h (l c:List UInt8) (m:Nat) (h:l.length+c.length<=m):Go.splice (bufC l m) l.length (c.map λb=>Value.int .u8 b.toNat)=bufC (l++c) m:=by
 unfold Go.splice bufC;rw [List.take_append_of_le_length (by simp),List.take_of_length_le (by simp),List.drop_append]
 simp only [y36q,List.map_append,x12q,y12q];rw [y16q (by simp),y14q,List.drop_replicate]
 congr 3;omega
theorem q8g (L:List Value) (j:Nat) (v:Value) (_:Unit) (h:j<L.length):L.toArray.setIfInBounds j v=(Go.splice L j [v]).toArray:=by apply y34q.1;rw [Array.toList_setIfInBounds];unfold Go.splice;simp only [List.length_singleton,List.singleton_append];rw [List.set_eq_take_append_cons_drop,if_pos h]
theorem qss (m:Nat):madeCells #[Value.int .u8 0] m=(List.replicate m (Value.int .u8 0)).toArray:=by
 apply Array.ext
 ·simp [madeCells]
 ·intro i h1 h2
  simp [madeCells,Nat.mod_one]
theorem q7t {B:Nat} {a w:World} (h:Below B a w) (n:Nat):Below B a (w.drewN n):=⟨h.os,h.tape,h.output,h.size,h.block⟩
set_option maxHeartbeats 8000000 in
theorem q113 (lo N q r1 r2 c1 c2:Nat) (w:World) (hR:Rpl lo w N q r1 r2 c1 c2) (s:BA) (hs:s.size<4294967281) :
  Calls Tryz.prog 260 #[.pointer (some ⟨N,0,none⟩),.string s] w λe w'=>e=.returned (.string ⟨(esc s.data.toList).toArray⟩)/\Below w.heap.size w w':=by
 have hcz:=q1kf s.data.toList;have hzl:=zN_le s.data.toList
 have hsl:s.data.toList.length=s.size:=by rw [x24q];rfl
 rw [hsl] at hzl;generalize hz:zN s.data.toList=z at hcz hzl;generalize ha:Lib.countByte s.data.toList 34=a at hcz;generalize hb:Lib.countByte s.data.toList 92=b at hcz;have hk1:=lays138
 have e34:∀ h,(((⟨#[34]⟩:BA)[0]'h).toNat:Int)=34:=λ_=>rfl;have e92:∀ h,(((⟨#[92]⟩:BA)[0]'h).toNat:Int)=92:=λ_=>rfl
 by_cases h16:16<=s.size
 ·go_enter Tryz.func260,Tryz.ntmps260
  have hle:decide ((16:Int)<=(s.size:Int))=true:=by simp;omega
  have hall:=hR.all
  go_wp2
  go_loopw [5,6,32] (λu5 u6 u32 wr=>∃ k:Nat,k<=2/\u32=.int .i64 k/\u5=.int .i64 ((s.size+ptN a z k:Nat))/\u6=.bool (decide (ptN a z k≠0))/\Rpl lo wr N q r1 r2 c1 c2/\Below w.heap.size w wr/\w.heap.size<=wr.heap.size)
   (λ_ _ u32 _=>2 - (vInt u32).toNat)
  case atStart=>exact ⟨0,by omega,rfl,by simp [ptN],by simp [ptN],hR,Below.refl _ _,Nat.le_refl _⟩
  case round =>
   obtain ⟨k,hk,rfl,rfl,rfl,hRr,hbr,hsr⟩:=hrel;obtain ⟨l1,l2,l3,l4,p1,p2,p3,p4,p5,p6,p7,p8,p9,p10⟩:=hRr;have hk':k=0∨k=1∨k=2:=by omega
   have q0:ptN a z 0=0:=rfl;have q1:ptN a z 1=a:=rfl
   have q2:ptN a z 2=z:=rfl;rcases hk' with rfl|rfl|rfl
   ·rw [q0]
    by_cases ha0:a=0
    ·go_wp2_with (go_at_call 262;refine (Any.strings_Count_one lays138 s 34 _).mono ?_;rintro e w' ⟨rfl,rfl⟩;rw [ha,ha0])
     go_roundw
     case rel=>exact ⟨1,by omega,rfl,by simp [ptN,ha0],by simp [ptN,ha0],⟨l1,l2,l3,l4,p1,p2,p3,p4,p5,p6,p7,p8,p9,p10⟩,hbr,hsr⟩
     case measure=>simp [vInt]
    ·have ha':(((a:Nat):Int) != 0)=true:=by simp [ha0]
     go_wp2_with (go_at_call 262;refine (Any.strings_Count_one lays138 s 34 _).mono ?_;rintro e w' ⟨rfl,rfl⟩;rw [ha])
     go_quiet (fail)
     go_wp2
     exact ⟨⟨1,by omega,rfl,by simp [q1],by simp [q1,ha0],⟨l1,l2,l3,l4,p1,p2,p3,p4,p5,p6,p7,p8,p9,p10⟩,q7t hbr _,hsr⟩,by simp [vInt]⟩
   ·rw [q1]
    by_cases hb0:b=0
    ·have hza:z=a:=by omega
     go_wp2_with (go_at_call 262;refine (Any.strings_Count_one lays138 s 92 _).mono ?_;rintro e w' ⟨rfl,rfl⟩;rw [hb,hb0])
     go_roundw
     case rel=>exact ⟨2,by omega,rfl,by simp [ptN,hza],by simp [ptN,hza],⟨l1,l2,l3,l4,p1,p2,p3,p4,p5,p6,p7,p8,p9,p10⟩,hbr,hsr⟩
     case measure=>simp [vInt]
    ·have hb':(((b:Nat):Int) != 0)=true:=by simp [hb0]
     go_wp2_with (go_at_call 262;refine (Any.strings_Count_one lays138 s 92 _).mono ?_;rintro e w' ⟨rfl,rfl⟩;rw [hb])
     go_quiet (fail)
     go_wp2
     have hz0:z≠0:=by omega
     have hzz:(z:Int)=a+b:=by omega
     exact ⟨⟨2,by omega,rfl,by simp [q2,hzz,Int.add_assoc],by simp [q2,hz0],⟨l1,l2,l3,l4,p1,p2,p3,p4,p5,p6,p7,p8,p9,p10⟩,q7t hbr _,hsr⟩,by simp [vInt]⟩
   ·rw [q2]
    by_cases hz0:z=0
    ·subst hz0
     go_wp2
     go_ret
     exact ⟨by rw [qej _ hz];rfl,hbr⟩
    ·have hzd:decide (z≠0)=true:=by simp [hz0]
     rw [hzd];clear hcz;obtain ⟨m,hm⟩:∃ m,s.size+z=m:=⟨_,rfl⟩;rw [hm];have hmk:=run_make_row' (P:=Tryz.prog) 26 5 (.int .u8 0) 1 Tryz.underlying26 qpb rfl .i64 .i64 m (by omega) (by omega)
     go_wp2
     have hRw:Rpl lo wr N q r1 r2 c1 c2:=⟨l1,l2,l3,l4,p1,p2,p3,p4,p5,p6,p7,p8,p9,p10⟩;clear p1 p2 p3 p4 p5 p6 p7 p8 p9 p10;obtain ⟨g,hg⟩:∃ g,wr.heap.size=g:=⟨_,rfl⟩
     go_loopw [13,14] (λu13 u14 w2=>∃ k:Nat,k<=s.size/\u14=.int .i64 k/\u13=.int .i64 ((esc (s.data.toList.take k)).length:Nat)/\w2.heap[g]?=some (.cells (bufC (esc (s.data.toList.take k)) m).toArray 5 (0,0))/\Below g wr w2/\g<w2.heap.size)
      (λ_ u14 _=>s.size - (vInt u14).toNat)
     case atStart=>
      refine ⟨0,by omega,rfl,rfl,?_,?_,?_⟩
      ·rw [←hg];exact (MapKept.heap_alloc wr _).1.trans (by rw [qss];rfl)
      ·rw [←hg];exact (Below.refl _ wr).alloc (Nat.le_refl _) _
      ·rw [←hg];simp
     case round =>
      obtain ⟨k,hk,rfl,rfl,hbuf,hbw,hgs⟩:=hrel;have hR2:=hRw.below hbw (by omega)
      obtain ⟨_,_,_,_,p1,p2,p3,p4,p5,p6,p7,p8,p9,p10⟩:=hR2;rcases y30q k s.size with hkl|hke
      ·have hlt:decide ((k:Int)<(s.size:Int))=true:=by simp;omega
       obtain ⟨c,hcq⟩:∃ c,s[k]=c:=⟨_,rfl⟩;have hc256:c.toNat<256:=UInt8.toNat_lt c
       by_cases hc34:c=34
       ·subst hc34
        have hj:=qek s.data.toList k 34 (by rw [hsl];exact hkl) (by rw [←hcq];rfl)
        obtain ⟨hj1,hj2⟩:=hj;rw [hsl,hz,hm] at hj2;generalize hjd:(esc (List.take k s.data.toList)).length=j at hj2 ⊢;have e1:(esc [(34:UInt8)]).length=2:=rfl
        rw [e1] at hj2;have hjm:j<=m:=by omega
        have hjm':(j:Int)<=(m:Int):=by omega
        go_wp2
        have hmj:¬ m=j:=by omega
        have hsrc:∀ (i:Nat) v,([Value.int .u8 92,.int .u8 34]:List Value)[i]?=some v->wr.drew.cell? ((⟨r1,0,none⟩:Addr).add i)=some v:=λi v hv=>by
         match i,hv with
         |0,hv=>injection hv with hv;subst hv;exact p7
         |1,hv=>injection hv with hv;subst hv;exact p8
        have hmin:Nat.min 2 (m - j)=2:=by simp [Nat.min_def];omega
        have hfit:j+2<=(bufC (esc (List.take k s.data.toList)) m).length:=by rw [q8f _ _ (by omega)];exact hj2
        go_region_law (refine step_copy_splice rfl (.tmp 105) (.tmp 111) 26 26 rfl 5 Tryz.underlying26 (by kernel_rfl) _ _ _ _ _ _ rfl rfl g j _ 5 hbuf [.int .u8 92,.int .u8 34] hmin.symm (λ_=>⟨rfl,_,rfl,hsrc⟩) hfit (by intro v hv;simp at hv;rcases hv with rfl|rfl <;> rfl) g _ hbw.drew (Nat.le_refl _) ?_;intro w4 hg4 hb4)
        go_wp2
        have hg4':w4.heap[g]?=some (.cells (bufC (esc (List.take (k+1) s.data.toList)) m).toArray 5 (0,0)):=by
         rw [hj1,←q8h _ _ _ (by rw [hjd,e1];exact hj2),hjd]
         exact hg4
        have hgs4:g<w4.heap.size:=(y6q.1 hg4').1;have hju:(j:Int)+2=((esc (List.take (k+1) s.data.toList)).length:Nat):=by rw [hj1,x12q,hjd,e1];rfl
        subst hg;refine ⟨⟨_,_,_,_,_,_,_,_,_,_,_,_,_,_,_,_,_,_,_,_,_,_,_,_,_,_,_,_,_,_,_,_,_,_,_,_,_,⟨k+1,by omega,?_,?_,hg4',hb4,hgs4⟩,rfl⟩,?_⟩
        ·rfl
        ·rw [←hju]
        ·show s.size - ((k:Int)+1).toNat<s.size - (k:Int).toNat
         omega
       by_cases hc92:c=92
       ·subst hc92
        have hj:=qek s.data.toList k 92 (by rw [hsl];exact hkl) (by rw [←hcq];rfl)
        obtain ⟨hj1,hj2⟩:=hj;rw [hsl,hz,hm] at hj2;generalize hjd:(esc (List.take k s.data.toList)).length=j at hj2 ⊢;have e1:(esc [(92:UInt8)]).length=2:=rfl
        rw [e1] at hj2;have hjm:j<=m:=by omega
        have hjm':(j:Int)<=(m:Int):=by omega
        go_wp2
        have hmj:¬ m=j:=by omega
        have hsrc:∀ (i:Nat) v,([Value.int .u8 92,.int .u8 92]:List Value)[i]?=some v->wr.drew.cell? ((⟨r2,0,none⟩:Addr).add i)=some v:=λi v hv=>by
         match i,hv with
         |0,hv=>injection hv with hv;subst hv;exact p9
         |1,hv=>injection hv with hv;subst hv;exact p10
        have hmin:Nat.min 2 (m - j)=2:=by simp [Nat.min_def];omega
        have hfit:j+2<=(bufC (esc (List.take k s.data.toList)) m).length:=by rw [q8f _ _ (by omega)];exact hj2
        go_region_law (refine step_copy_splice rfl (.tmp 105) (.tmp 111) 26 26 rfl 5 Tryz.underlying26 (by kernel_rfl) _ _ _ _ _ _ rfl rfl g j _ 5 hbuf [.int .u8 92,.int .u8 92] hmin.symm (λ_=>⟨rfl,_,rfl,hsrc⟩) hfit (by intro v hv;simp at hv;rcases hv with rfl|rfl <;> rfl) g _ hbw.drew (Nat.le_refl _) ?_;intro w4 hg4 hb4)
        go_wp2
        have hg4':w4.heap[g]?=some (.cells (bufC (esc (List.take (k+1) s.data.toList)) m).toArray 5 (0,0)):=by
         rw [hj1,←q8h _ _ _ (by rw [hjd,e1];exact hj2),hjd]
         exact hg4
        have hgs4:g<w4.heap.size:=(y6q.1 hg4').1;have hju:(j:Int)+2=((esc (List.take (k+1) s.data.toList)).length:Nat):=by rw [hj1,x12q,hjd,e1];rfl
        subst hg;refine ⟨⟨_,_,_,_,_,_,_,_,_,_,_,_,_,_,_,_,_,_,_,_,_,_,_,_,_,_,_,_,_,_,_,_,_,_,_,_,_,⟨k+1,by omega,?_,?_,hg4',hb4,hgs4⟩,rfl⟩,?_⟩
        ·rfl
        ·rw [←hju]
        ·show s.size - ((k:Int)+1).toNat<s.size - (k:Int).toNat
         omega
       have hj:=qek s.data.toList k c (by rw [hsl];exact hkl) (by rw [←hcq];rfl)
       obtain ⟨hj1,hj2⟩:=hj;rw [hsl,hz,hm] at hj2;generalize hjd:(esc (List.take k s.data.toList)).length=j at hj2 ⊢;have e0:esc [c]=[c]:=by simp [esc,hc34,hc92]
       rw [e0] at hj1 hj2;have hj2':j+1<=m:=hj2
       have hjm:j<m:=by omega
       have hjm':(j:Int)<(m:Int):=by omega
       have hn34:¬ c.toNat=34:=λe=>hc34 (UInt8.toNat_inj.1 e);have hn92:¬ c.toNat=92:=λe=>hc92 (UInt8.toNat_inj.1 e)
       have hcell:=p4 c.toNat hc256 hn34 hn92;have hbl:=q8f (esc (List.take k s.data.toList)) m (by omega)
       have hcj:∃ x,wr.cell? ⟨g,j,none⟩=some x:=by refine ⟨_,(cell_of_row wr g j _ 5 (0,0) hbuf).trans (y3q (by simp;omega))⟩
       obtain ⟨x0,hcj⟩:=hcj;have hfj:wr.frozen? ⟨g,j,none⟩=false:=by simp [World.frozen?,hbuf]
       go_wp2
       have hset:(wr.setCell ⟨g,j,none⟩ (.int .u8 c.toNat)).heap[g]?=some (.cells (bufC (esc (List.take (k+1) s.data.toList)) m).toArray 5 (0,0)):=by
        rw [heap_setCell_same wr g j _ 5 _ hbuf,hj1,←q8h _ _ _ (by rw [hjd];exact hj2),hjd]
        rw [q8g _ _ _ () (by rw [hbl];omega)]
        rfl
       have hju:(j:Int)+1=((esc (List.take (k+1) s.data.toList)).length:Nat):=by rw [hj1,x12q,hjd];rfl
       refine ⟨⟨k+1,by omega,rfl,by rw [hju],hset,hbw.setCell (p:=⟨g,j,none⟩) (Nat.le_refl _) _,(y6q.1 hset).1⟩,?_⟩
       show s.size - ((k:Int)+1).toNat<s.size - (k:Int).toNat;omega
      ·have hlt:decide ((k:Int)<(s.size:Int))=false:=by simp;omega
       have hkn:k=s.size:=by omega
       rw [hkn,List.take_of_length_le (by omega)] at hbuf
       have hml:(esc s.data.toList).length=m:=by rw [qei,hsl,hz,hm]
       have hcv:(convert 26 9 (.slice (some ⟨g,0,none⟩) m m)).run Tryz.prog wr=.ok (.string ⟨(esc s.data.toList).toArray⟩) wr:=by
        have:=run_convert_bytes_back (P:=Tryz.prog) wr 26 9 5 ⟨g,0,none⟩ m (esc s.data.toList) Tryz.underlying26 Tryz.underlying5 Tryz.underlying9 (λj hj=>by
         have e:(⟨g,0,none⟩:Addr).add j=⟨g,j,none⟩:=by unfold Addr.add;split <;> simp_all
         rw [e,cell_of_row wr g j _ 5 (0,0) hbuf];unfold bufC;simp [y42q,hj])
        rw [hml] at this;exact this
       go_wp2
       go_ret
       exact ⟨rfl,hbr.trans (hbw.mono (by omega))⟩
 ·go_enter Tryz.func260,Tryz.ntmps260
  have hle:decide ((16:Int)<=(s.size:Int))=false:=by simp;omega
  have hall:=hR.all;clear hcz ha hb
  go_wp2
  go_loopw [5,6,10] (λu5 u6 u10 wr=>∃ k:Nat,k<=s.size/\u10=.int .i64 k/\u5=.int .i64 ((s.size+zN (s.data.toList.take k):Nat))/\u6=.bool (decide (zN (s.data.toList.take k)≠0))/\Rpl lo wr N q r1 r2 c1 c2/\Below w.heap.size w wr/\w.heap.size<=wr.heap.size)
   (λ_ _ u10 _=>s.size - (vInt u10).toNat)
  case atStart=>exact ⟨0,by omega,rfl,rfl,rfl,hR,Below.refl _ _,Nat.le_refl _⟩
  case round =>
   obtain ⟨k,hk,rfl,rfl,rfl,hRr,hbr,hsr⟩:=hrel;obtain ⟨l1,l2,l3,l4,p1,p2,p3,p4,p5,p6,p7,p8,p9,p10⟩:=hRr;rcases y30q k s.size with hkl|hke
   ·have hlt:decide ((k:Int)<(s.size:Int))=true:=by simp;omega
    obtain ⟨c,hcq⟩:∃ c,s[k]=c:=⟨_,rfl⟩;have hc256:c.toNat<256:=UInt8.toNat_lt c
    have hzt:=q1kg s.data.toList k c (by rw [hsl];exact hkl) (by rw [←hcq];rfl)
    have hyb:zN (List.take k s.data.toList)<=s.size:=by have:=zN_le (List.take k s.data.toList);rw [y48q] at this;omega
    generalize hyd:zN (List.take k s.data.toList)=y at hzt hyb ⊢;by_cases hc34:c=34
    ·subst hc34
     have hzt':zN (List.take (k+1) s.data.toList)=y+1:=hzt
     go_wp2
     exact ⟨⟨k+1,by omega,rfl,by rw [hzt'];simp [Int.add_assoc],by rw [hzt'];simp,⟨l1,l2,l3,l4,p1,p2,p3,p4,p5,p6,p7,p8,p9,p10⟩,hbr,hsr⟩,by simp [vInt];omega⟩
    by_cases hc92:c=92
    ·subst hc92
     have hzt':zN (List.take (k+1) s.data.toList)=y+1:=hzt
     go_wp2
     exact ⟨⟨k+1,by omega,rfl,by rw [hzt'];simp [Int.add_assoc],by rw [hzt'];simp,⟨l1,l2,l3,l4,p1,p2,p3,p4,p5,p6,p7,p8,p9,p10⟩,hbr,hsr⟩,by simp [vInt];omega⟩
    have hzt':zN (List.take (k+1) s.data.toList)=y:=by rw [hzt];simp [isEsc,hc34,hc92]
    have hn34:¬ c.toNat=34:=λe=>hc34 (UInt8.toNat_inj.1 e);have hn92:¬ c.toNat=92:=λe=>hc92 (UInt8.toNat_inj.1 e)
    have hcell:=p4 c.toNat hc256 hn34 hn92
    go_wp2
    exact ⟨⟨k+1,by omega,rfl,by rw [hzt'],by rw [hzt'],⟨l1,l2,l3,l4,p1,p2,p3,p4,p5,p6,p7,p8,p9,p10⟩,hbr,hsr⟩,by simp [vInt];omega⟩
   ·have hlt:decide ((k:Int)<(s.size:Int))=false:=by simp;omega
    have hkn:k=s.size:=by omega
    subst hkn;rw [List.take_of_length_le (by omega),hz]
    by_cases hz0:z=0
    ·subst hz0
     go_wp2
     go_ret
     exact ⟨by rw [qej _ hz];rfl,hbr⟩
    ·have hzd:decide (z≠0)=true:=by simp [hz0]
     rw [hzd];obtain ⟨m,hm⟩:∃ m,s.size+z=m:=⟨_,rfl⟩;rw [hm];have hmk:=run_make_row' (P:=Tryz.prog) 26 5 (.int .u8 0) 1 Tryz.underlying26 qpb rfl .i64 .i64 m (by omega) (by omega)
     go_wp2
     have hRw:Rpl lo wr N q r1 r2 c1 c2:=⟨l1,l2,l3,l4,p1,p2,p3,p4,p5,p6,p7,p8,p9,p10⟩;clear p1 p2 p3 p4 p5 p6 p7 p8 p9 p10;obtain ⟨g,hg⟩:∃ g,wr.heap.size=g:=⟨_,rfl⟩
     go_loopw [13,14] (λu13 u14 w2=>∃ k:Nat,k<=s.size/\u14=.int .i64 k/\u13=.int .i64 ((esc (s.data.toList.take k)).length:Nat)/\w2.heap[g]?=some (.cells (bufC (esc (s.data.toList.take k)) m).toArray 5 (0,0))/\Below g wr w2/\g<w2.heap.size)
      (λ_ u14 _=>s.size - (vInt u14).toNat)
     case atStart=>
      refine ⟨0,by omega,rfl,rfl,?_,?_,?_⟩
      ·rw [←hg];exact (MapKept.heap_alloc wr _).1.trans (by rw [qss];rfl)
      ·rw [←hg];exact (Below.refl _ wr).alloc (Nat.le_refl _) _
      ·rw [←hg];simp
     case round =>
      obtain ⟨k,hk,rfl,rfl,hbuf,hbw,hgs⟩:=hrel;have hR2:=hRw.below hbw (by omega)
      obtain ⟨_,_,_,_,p1,p2,p3,p4,p5,p6,p7,p8,p9,p10⟩:=hR2;rcases y30q k s.size with hkl|hke
      ·have hlt:decide ((k:Int)<(s.size:Int))=true:=by simp;omega
       obtain ⟨c,hcq⟩:∃ c,s[k]=c:=⟨_,rfl⟩;have hc256:c.toNat<256:=UInt8.toNat_lt c
       by_cases hc34:c=34
       ·subst hc34
        have hj:=qek s.data.toList k 34 (by rw [hsl];exact hkl) (by rw [←hcq];rfl)
        obtain ⟨hj1,hj2⟩:=hj;rw [hsl,hz,hm] at hj2;generalize hjd:(esc (List.take k s.data.toList)).length=j at hj2 ⊢;have e1:(esc [(34:UInt8)]).length=2:=rfl
        rw [e1] at hj2;have hjm:j<=m:=by omega
        have hjm':(j:Int)<=(m:Int):=by omega
        go_wp2
        have hmj:¬ m=j:=by omega
        have hsrc:∀ (i:Nat) v,([Value.int .u8 92,.int .u8 34]:List Value)[i]?=some v->wr.drew.cell? ((⟨r1,0,none⟩:Addr).add i)=some v:=λi v hv=>by
         match i,hv with
         |0,hv=>injection hv with hv;subst hv;exact p7
         |1,hv=>injection hv with hv;subst hv;exact p8
        have hmin:Nat.min 2 (m - j)=2:=by simp [Nat.min_def];omega
        have hfit:j+2<=(bufC (esc (List.take k s.data.toList)) m).length:=by rw [q8f _ _ (by omega)];exact hj2
        go_region_law (refine step_copy_splice rfl (.tmp 105) (.tmp 111) 26 26 rfl 5 Tryz.underlying26 (by kernel_rfl) _ _ _ _ _ _ rfl rfl g j _ 5 hbuf [.int .u8 92,.int .u8 34] hmin.symm (λ_=>⟨rfl,_,rfl,hsrc⟩) hfit (by intro v hv;simp at hv;rcases hv with rfl|rfl <;> rfl) g _ hbw.drew (Nat.le_refl _) ?_;intro w4 hg4 hb4)
        go_wp2
        have hg4':w4.heap[g]?=some (.cells (bufC (esc (List.take (k+1) s.data.toList)) m).toArray 5 (0,0)):=by
         rw [hj1,←q8h _ _ _ (by rw [hjd,e1];exact hj2),hjd]
         exact hg4
        have hgs4:g<w4.heap.size:=(y6q.1 hg4').1;have hju:(j:Int)+2=((esc (List.take (k+1) s.data.toList)).length:Nat):=by rw [hj1,x12q,hjd,e1];rfl
        subst hg;refine ⟨⟨_,_,_,_,_,_,_,_,_,_,_,_,_,_,_,_,_,_,_,_,_,_,_,_,_,_,_,_,_,_,_,_,_,_,_,_,_,⟨k+1,by omega,?_,?_,hg4',hb4,hgs4⟩,rfl⟩,?_⟩
        ·rfl
        ·rw [←hju]
        ·show s.size - ((k:Int)+1).toNat<s.size - (k:Int).toNat
         omega
       by_cases hc92:c=92
       ·subst hc92
        have hj:=qek s.data.toList k 92 (by rw [hsl];exact hkl) (by rw [←hcq];rfl)
        obtain ⟨hj1,hj2⟩:=hj;rw [hsl,hz,hm] at hj2;generalize hjd:(esc (List.take k s.data.toList)).length=j at hj2 ⊢;have e1:(esc [(92:UInt8)]).length=2:=rfl
        rw [e1] at hj2;have hjm:j<=m:=by omega
        have hjm':(j:Int)<=(m:Int):=by omega
        go_wp2
        have hmj:¬ m=j:=by omega
        have hsrc:∀ (i:Nat) v,([Value.int .u8 92,.int .u8 92]:List Value)[i]?=some v->wr.drew.cell? ((⟨r2,0,none⟩:Addr).add i)=some v:=λi v hv=>by
         match i,hv with
         |0,hv=>injection hv with hv;subst hv;exact p9
         |1,hv=>injection hv with hv;subst hv;exact p10
        have hmin:Nat.min 2 (m - j)=2:=by simp [Nat.min_def];omega
        have hfit:j+2<=(bufC (esc (List.take k s.data.toList)) m).length:=by rw [q8f _ _ (by omega)];exact hj2
        go_region_law (refine step_copy_splice rfl (.tmp 105) (.tmp 111) 26 26 rfl 5 Tryz.underlying26 (by kernel_rfl) _ _ _ _ _ _ rfl rfl g j _ 5 hbuf [.int .u8 92,.int .u8 92] hmin.symm (λ_=>⟨rfl,_,rfl,hsrc⟩) hfit (by intro v hv;simp at hv;rcases hv with rfl|rfl <;> rfl) g _ hbw.drew (Nat.le_refl _) ?_;intro w4 hg4 hb4)
        go_wp2
        have hg4':w4.heap[g]?=some (.cells (bufC (esc (List.take (k+1) s.data.toList)) m).toArray 5 (0,0)):=by
         rw [hj1,←q8h _ _ _ (by rw [hjd,e1];exact hj2),hjd]
         exact hg4
        have hgs4:g<w4.heap.size:=(y6q.1 hg4').1;have hju:(j:Int)+2=((esc (List.take (k+1) s.data.toList)).length:Nat):=by rw [hj1,x12q,hjd,e1];rfl
        subst hg;refine ⟨⟨_,_,_,_,_,_,_,_,_,_,_,_,_,_,_,_,_,_,_,_,_,_,_,_,_,_,_,_,_,_,_,_,_,_,_,_,_,⟨k+1,by omega,?_,?_,hg4',hb4,hgs4⟩,rfl⟩,?_⟩
        ·rfl
        ·rw [←hju]
        ·show s.size - ((k:Int)+1).toNat<s.size - (k:Int).toNat
         omega
       have hj:=qek s.data.toList k c (by rw [hsl];exact hkl) (by rw [←hcq];rfl)
       obtain ⟨hj1,hj2⟩:=hj;rw [hsl,hz,hm] at hj2;generalize hjd:(esc (List.take k s.data.toList)).length=j at hj2 ⊢;have e0:esc [c]=[c]:=by simp [esc,hc34,hc92]
       rw [e0] at hj1 hj2;have hj2':j+1<=m:=hj2
       have hjm:j<m:=by omega
       have hjm':(j:Int)<(m:Int):=by omega
       have hn34:¬ c.toNat=34:=λe=>hc34 (UInt8.toNat_inj.1 e);have hn92:¬ c.toNat=92:=λe=>hc92 (UInt8.toNat_inj.1 e)
       have hcell:=p4 c.toNat hc256 hn34 hn92;have hbl:=q8f (esc (List.take k s.data.toList)) m (by omega)
       have hcj:∃ x,wr.cell? ⟨g,j,none⟩=some x:=by refine ⟨_,(cell_of_row wr g j _ 5 (0,0) hbuf).trans (y3q (by simp;omega))⟩
       obtain ⟨x0,hcj⟩:=hcj;have hfj:wr.frozen? ⟨g,j,none⟩=false:=by simp [World.frozen?,hbuf]
       go_wp2
       have hset:(wr.setCell ⟨g,j,none⟩ (.int .u8 c.toNat)).heap[g]?=some (.cells (bufC (esc (List.take (k+1) s.data.toList)) m).toArray 5 (0,0)):=by
        rw [heap_setCell_same wr g j _ 5 _ hbuf,hj1,←q8h _ _ _ (by rw [hjd];exact hj2),hjd]
        rw [q8g _ _ _ () (by rw [hbl];omega)]
        rfl
       have hju:(j:Int)+1=((esc (List.take (k+1) s.data.toList)).length:Nat):=by rw [hj1,x12q,hjd];rfl
       refine ⟨⟨k+1,by omega,rfl,by rw [hju],hset,hbw.setCell (p:=⟨g,j,none⟩) (Nat.le_refl _) _,(y6q.1 hset).1⟩,?_⟩
       show s.size - ((k:Int)+1).toNat<s.size - (k:Int).toNat;omega
      ·have hlt:decide ((k:Int)<(s.size:Int))=false:=by simp;omega
       have hkn:k=s.size:=by omega
       rw [hkn,List.take_of_length_le (by omega)] at hbuf
       have hml:(esc s.data.toList).length=m:=by rw [qei,hsl,hz,hm]
       have hcv:(convert 26 9 (.slice (some ⟨g,0,none⟩) m m)).run Tryz.prog wr=.ok (.string ⟨(esc s.data.toList).toArray⟩) wr:=by
        have:=run_convert_bytes_back (P:=Tryz.prog) wr 26 9 5 ⟨g,0,none⟩ m (esc s.data.toList) Tryz.underlying26 Tryz.underlying5 Tryz.underlying9 (λj hj=>by
         have e:(⟨g,0,none⟩:Addr).add j=⟨g,j,none⟩:=by unfold Addr.add;split <;> simp_all
         rw [e,cell_of_row wr g j _ 5 (0,0) hbuf];unfold bufC;simp [y42q,hj])
        rw [hml] at this;exact this
       go_wp2
       go_ret
       exact ⟨rfl,hbr.trans (hbw.mono (by omega))⟩
end Go.Proofs.YtmlcmoaonaomfaaGreatDoor
namespace Go.Proofs.YtmlcmoaonaomfaaGreatDoor
open Go.RowKit
set_option maxRecDepth 100000
set_option maxHeartbeats 1600000 in
theorem qbg (b g c:Nat) (w:World) (h:Raw w b g c) :
  Calls Tryz.prog 131 #[.pointer (some ⟨b,0,none⟩),.func (.func 132) #[.pointer (some ⟨b,0,none⟩)] #[]] w λe w'=>e=.returned (.tuple #[])/\Built w b w':=by
 have hl:=run_call_load (P:=Tryz.prog) Tryz.func168 (by kernel_rfl) (by kernel_rfl) (by kernel_rfl) .u32 (by kernel_rfl) (w:=w) (a:=⟨b,0,none⟩) (x:=0) h.d0
 have hnot:∀ (x:Bool) (w:World),(Op.unary .not (.bool x)).run Tryz.prog w=.ok (.bool (!x)) w:=λ_ _=>rfl
 go_enter Tryz.func131,Tryz.ntmps131
 go_wp2_with (first|(go_at_call 149;refine (q1d4 b g c _ h).mono ?_;rintro e w' ⟨rfl,hB⟩)|(go_at_call 148;go_in))
 go_end0
 exact ⟨rfl,hB⟩
set_option maxHeartbeats 1600000 in
theorem q11b (b g c:Nat) (w:World) (h:Raw w b g c) (s:BA) (hs:s.size<4294967281) :
  Calls Tryz.prog 104 #[.pointer (some ⟨b,0,none⟩),.string s] w λe w'=>e=.returned (.string ⟨(esc s.data.toList).toArray⟩)/\∃ W,Built w b W/\Below W.heap.size W w':=by
 have hm : ∀ (N : Nat) (w : World), (method 436 241 (.pointer (some ⟨N, 0, none⟩)) "Replace").run Tryz.prog w = .ok (260, .pointer (some ⟨N, 0, none⟩)) w := fun _ _ => by kernel_rfl
 go_enter Tryz.func104,Tryz.ntmps104
 go_wp2_with (first|(go_at_call 131;refine (qbg b g c _ h).mono ?_;rintro e W ⟨rfl,hB⟩;obtain ⟨⟨N,q,r1,r2,c1,c2,hR,h3⟩,o1,o2,o3,o4,o5⟩:=id hB)|(go_at_call 260;refine (q113 _ N q r1 r2 c1 c2 _ hR s hs).mono ?_;rintro e w' ⟨rfl,hB2⟩))
 go_ret
 exact ⟨rfl,W,hB,hB2⟩
theorem heap3 (w:World) (A B C:Obj) :
  (((w.alloc A).alloc B).alloc C).drew.heap[w.heap.size+1]?=some B/\(((w.alloc A).alloc B).alloc C).drew.heap[w.heap.size+1+1]?=some C/\(((w.alloc A).alloc B).alloc C).drew.heap.size=w.heap.size+3:=by
 have hn:∀ (W:World) (X:Obj),(W.alloc X).heap[W.heap.size]?=some X:=λW X=>by show (W.heap.push X)[W.heap.size]?=_;simp
 have hs:∀ (W:World) (X:Obj),(W.alloc X).heap.size=W.heap.size+1:=λW X=>by show (W.heap.push X).size=_;simp
 have hd:∀ W:World,W.drew.heap=W.heap:=λ_=>rfl;simp only [hd];refine ⟨?_,?_,?_⟩
 ·rw [Below.heap_alloc _ _ _ (by simp only [hs];omega),←hs w A,hn]
 ·rw [←hs w A,←hs (w.alloc A) B,hn]
 ·rw [hs,hs,hs]
set_option maxHeartbeats 1600000 in
theorem qum (w:World):Calls Tryz.prog 103 #[.slice (some ⟨w.heap.size,0,none⟩) 4 4] (w.alloc (.cells #[.string ⟨#[92]⟩,.string ⟨#[92,92]⟩,.string ⟨#[34]⟩,.string ⟨#[92,34]⟩] 9)) λe w'=>∃ b g c,e=.returned (.pointer (some ⟨b,0,none⟩))/\Raw w' b g c/\Below w.heap.size w w'/\w.heap.size<=b:=by
 go_enter Tryz.func103,Tryz.ntmps103
 go_wp2
 go_ret
 have hge:=grownCap_ge w 4 0 9;obtain ⟨h1,h2,h3⟩:=heap3 w (.cells #[.string ⟨#[92]⟩,.string ⟨#[92,92]⟩,.string ⟨#[34]⟩,.string ⟨#[92,34]⟩] 9) (.cells (#[.string ⟨#[92]⟩,.string ⟨#[92,92]⟩,.string ⟨#[34]⟩,.string ⟨#[92,34]⟩]++Builtin.zeroCells #[.string ⟨#[]⟩] ((Question.appendCap 4 0 9).cut (w.tape w.drawn (Question.appendCap 4 0 9)) - 4)) 9) (.cells #[.int .u32 0,.int .i32 0,.int .u32 0,.nilIface,.slice (some ⟨w.heap.size+1,0,none⟩) 4 ((Question.appendCap 4 0 9).cut (w.tape w.drawn (Question.appendCap 4 0 9)))] 194);have hb:∀ (W:World) (X:Obj),Below w.heap.size w W->Below w.heap.size w (W.alloc X):=λW X h=>h.alloc h.size X
 refine ⟨w.heap.size+1+1,w.heap.size+1,_,rfl,⟨hge,by rw [h3];omega,?_,?_,⟨.nilIface,?_⟩,?_,λj=>?_,?_,?_,?_,?_,by omega⟩,(hb _ _ (hb _ _ (hb _ _ (Below.refl _ w)))).drew,by omega⟩
 ·simp only [World.cell?,h2];rfl
 ·simp only [World.cell?,h2];rfl
 ·simp only [World.cell?,h2];rfl
 ·simp only [World.cell?,h2];rfl
 ·simp only [World.frozen?,h2];simp
 ·simp only [World.cell?,h1];rw [y23q (by decide)];rfl
 ·simp only [World.cell?,h1];rw [y23q (by decide)];rfl
 ·simp only [World.cell?,h1];rw [y23q (by decide)];rfl
 ·simp only [World.cell?,h1];rw [y23q (by decide)];rfl
set_option maxHeartbeats 1600000 in
theorem q101 (s:BA) (hs:s.size<4294967281) (w:World) :
  Calls Tryz.prog 64 #[.string s] w λe w'=>e=.returned (.string ⟨(quoL s.data.toList).toArray⟩)/\Below w.heap.size w w':=by
 have hel:=qei s.data.toList;have hzl:=zN_le s.data.toList
 have hsl:s.data.toList.length=s.size:=by rw [x24q];rfl
 have hle1:¬ 9223372036854775807<1+(esc s.data.toList).length:=by omega
 have hle2:¬ 9223372036854775807<1+(esc s.data.toList).length+1:=by omega
 go_enter Tryz.func64,Tryz.ntmps64
 go_wp2_with (first|(go_at_call 104;refine (q11b b g c _ hraw s hs).mono ?_;rintro e w' ⟨rfl,W,hW,hB⟩)|(go_at_call 103;refine (qum w).mono ?_;rintro e w1 ⟨b,g,c,rfl,hraw,hb1,hbb⟩))
 go_ret
 refine ⟨?_,?_⟩
 ·show Ending.returned (.string (⟨#[34]⟩++⟨(esc s.data.toList).toArray⟩++⟨#[34]⟩))=_
  rw [show (⟨#[34]⟩++⟨(esc s.data.toList).toArray⟩++⟨#[34]⟩:BA)=⟨(quoL s.data.toList).toArray⟩ from by apply ByteArray.ext;simp [quoL]]
 ·obtain ⟨_,o1,o2,o3,o4,o5⟩:=hW
  have hz1:=hb1.size;refine ⟨hB.os.trans (o1.trans hb1.os),hB.tape.trans (o2.trans hb1.tape),hB.output.trans (o3.trans hb1.output),Nat.le_trans hz1 (Nat.le_trans o4 hB.size),λk hk=>?_⟩;rw [hB.block k (by omega),o5 k (by omega) (by omega),hb1.block k hk]
def spW (w:World) (u v:Value):World:=((w.alloc (.cells #[u] 26)).alloc (.cells #[v] 26)).alloc (.cells #[.int .i64 0] 3)
set_option maxRecDepth 100000 in
theorem q1d7 (A B:Oq Addr) (n c k d:Nat) (w:World):Calls Tryz.prog 136 #[.slice A n c,.slice B k d,.int .i64 0] w λe w' =>
  e=.returned (.func (.func 157) #[] #[.pointer (some ⟨w.heap.size+1,0,none⟩),.pointer (some ⟨w.heap.size,0,none⟩),.pointer (some ⟨w.heap.size+2,0,none⟩)])/\w'=spW w (.slice A n c) (.slice B k d):=by
 go_enter Tryz.func136,Tryz.ntmps136
 go_wp2
 go_ret
 first|exact ⟨rfl,rfl⟩|skip
set_option maxRecDepth 100000 in
theorem q1dc (A B:Oq Addr) (n c k d:Nat) (w:World):Calls Tryz.prog 115 #[.slice A n c,.slice B k d] w λe w' =>
  e=.returned (.func (.func 157) #[] #[.pointer (some ⟨w.heap.size+1,0,none⟩),.pointer (some ⟨w.heap.size,0,none⟩),.pointer (some ⟨w.heap.size+2,0,none⟩)])/\w'=spW w (.slice A n c) (.slice B k d):=by
 go_enter Tryz.func115,Tryz.ntmps115
 go_wp2_with (go_at_call 136;refine (q1d7 A B n c k d _).mono ?_;rintro e w' ⟨rfl,rfl⟩)
 go_ret
 first|exact ⟨rfl,rfl⟩|skip
theorem q80 {mm:Nat} (a1 a2:Addr) (n c1 k c2:Nat) (xs ys:List Int) (m:Int) (w:World) (hx:xs.length=n) (hy:ys.length=k) (hr1:∀ x∈xs,0<=x/\x<256) (hr2:∀ y∈ys,0<=y/\y<256)
  (hc1:∀ i,i<n->w.cell? (a1.add i)=some (.int .u8 (xs.getD i 0))) (hc2:∀ i,i<k->w.cell? (a2.add i)=some (.int .u8 (ys.getD i 0))) (hcap:n<=c1) (hs:n<4294967281) (hk:k<=9223372036854775807) (hm:w.cell? ⟨0,0,none⟩=some (.int .i64 m)) :
  CallsIn Fence.wide mm Tryz.prog 159 #[.slice (some a1) n c1,.slice (some a2) k c2] w λe w'=>e=.returned (.int .i64 (Lib.index (Lib.bytesOf xs) (Lib.bytesOf ys)))/\∃ q,w'=w.drewN q :=
 callsIn_wide.2 (Any.bytes_Index_at lays185 a1 a2 n c1 k c2 xs ys m w hx hy hr1 hr2 hc1 hc2 hcap hs hk hm)
structure SpI (W:World) (p1 p2 p3 g:Nat) (s:Value) (m:Int):Prop where
 sep:W.cell? ⟨p1,0,none⟩=some (.slice (some ⟨g,0,none⟩) 2 2)
 s:W.cell? ⟨p2,0,none⟩=some s
 fr:W.frozen? ⟨p2,0,none⟩=false
 sv:W.cell? ⟨p3,0,none⟩=some (.int .i64 0)
 g0:W.cell? ⟨g,0,none⟩=some (.int .u8 13)
 g1:W.cell? ⟨g,1,none⟩=some (.int .u8 10)
 ml:W.cell? ⟨0,0,none⟩=some (.int .i64 m)
set_option maxHeartbeats 4000000 in
set_option maxRecDepth 100000 in
theorem q1d6 (l p1 p2 p3 g b off c:Nat) (mm:Int) (W0:World) (hc:4<=c) (_hcm:c<=maxLen) (h:SpI W0 p1 p2 p3 g (.slice (some ⟨b,off,none⟩) 4 c) mm)
  (h0:W0.cell? ⟨b,off,none⟩=some (.int .u8 104)) (h1:W0.cell? ⟨b,off+1,none⟩=some (.int .u8 105)) (h2:W0.cell? ⟨b,off+2,none⟩=some (.int .u8 13)) (h3:W0.cell? ⟨b,off+3,none⟩=some (.int .u8 10))
  (J1 J2:World->Prop) (hJ1:∀ W,J1 W->SpI W p1 p2 p3 g (.slice (some ⟨b,off,none⟩) 4 c) mm)
  (hy1:∀ q m,YieldAt Fence.wide m Tryz.prog l #[.slice (some ⟨b,off,none⟩) 2 2] (W0.drewN q) λe W'=>e=.returned (.bool true)/\J1 W')
  (hy2:∀ W q m a c',J1 W->SpI (W.setCell ⟨p2,0,none⟩ (.slice (some a) 0 c')) p1 p2 p3 g (.slice (some a) 0 c') mm/\YieldAt Fence.wide m Tryz.prog l #[.slice (some a) 0 0] ((W.setCell ⟨p2,0,none⟩ (.slice (some a) 0 c')).drewN q) λe W'=>e=.returned (.bool true)/\J2 W') :
  CallsIn Fence.wide 5 Tryz.prog 157 #[.func (.yield l) #[] #[],.pointer (some ⟨p1,0,none⟩),.pointer (some ⟨p2,0,none⟩),.pointer (some ⟨p3,0,none⟩)] W0 λe W'=>(∃ v,e=.returned v)/\J2 W':=by
 have i0:=h.sep;have i1:=h.s;have i2:=h.sv
 refine callsIn_of_wp Tryz.func157 rfl trivial ?_ rfl;simp only [Tryz.ntmps157,y41q,x9q,x8q,Nat.reduceAdd,Nat.reduceSub,Array.replicate_succ,Array.replicate_zero,List.push_toArray,List.append_toArray,y14q,y8q]
 have hix:∀ mm',CallsIn Fence.wide mm' Tryz.prog 159 #[.slice (some ⟨b,off,none⟩) 4 c,.slice (some ⟨g,0,none⟩) 2 2] W0 λe w'=>e=.returned (.int .i64 2)/\∃ q,w'=W0.drewN q:=λmm' =>
  (q80 ⟨b,off,none⟩ ⟨g,0,none⟩ 4 c 2 2 [104,105,13,10] [13,10] mm W0 rfl rfl (by decide) (by decide) (λi hi=>by
   match i,hi with
   |0,_=>simpa [Addr.add] using h0
   |1,_=>simpa [Addr.add] using h1
   |2,_=>simpa [Addr.add] using h2
   |3,_=>simpa [Addr.add] using h3) (λi hi=>by
   match i,hi with
   |0,_=>simpa [Addr.add] using h.g0
   |1,_=>simpa [Addr.add] using h.g1) hc (by decide) (by decide) h.ml).mono λe w' he=>⟨he.1,he.2⟩
 gi_wp2
 refine wpIn_loop_rounds 2 ?_;rw [roundsIn_succ]
 gi_wp2_with (refine ⟨trivial,(hix _).mono ?_⟩;rintro e w' ⟨rfl,q,rfl⟩;obtain ⟨fn1,tm1,as1,bo1,hyr1,hR1⟩:=hy1 q 4)
 refine hR1.mono ?_;rintro e W1 ⟨rfl,hj1⟩;have k0:=(hJ1 _ hj1).sep
 have k1:=(hJ1 _ hj1).s;have k2:=(hJ1 _ hj1).sv
 have k3:=(hJ1 _ hj1).fr
 gi_wp2
 all_goals
  rw [roundsIn_succ];generalize hW2:W1.setCell _ _=W2;have hh:∀ a c',W1.setCell ⟨p2,0,none⟩ (.slice (some a) 0 c')=W2->SpI W2 p1 p2 p3 g (.slice (some a) 0 c') mm/\∀ q m,YieldAt Fence.wide m Tryz.prog l #[.slice (some a) 0 0] (W2.drewN q) λe W'=>e=.returned (.bool true)/\J2 W':=by rintro a c' rfl;exact ⟨(hy2 W1 0 0 a c' hj1).1,λq m=>(hy2 W1 q m a c' hj1).2⟩
  obtain ⟨hI2,hY2⟩:=hh _ _ hW2;clear hh;have l0:=hI2.sep;have l1:=hI2.s;have l2:=hI2.sv
  have hix2:∀ mm' a c',CallsIn Fence.wide mm' Tryz.prog 159 #[.slice (some a) 0 c',.slice (some ⟨g,0,none⟩) 2 2] W2 λe w'=>e=.returned (.int .i64 (-1))/\∃ q,w'=W2.drewN q:=λmm' a c' =>
   (q80 a ⟨g,0,none⟩ 0 c' 2 2 [] [13,10] mm W2 rfl rfl (by decide) (by decide) (λi hi=>by omega) (λi hi=>by
    match i,hi with
    |0,_=>simpa [Addr.add] using hI2.g0
    |1,_=>simpa [Addr.add] using hI2.g1) (by omega) (by decide) (by decide) hI2.ml).mono λe w' he=>⟨he.1,he.2⟩
  clear hI2 hy2 hW2
  gi_wp2_with (refine ⟨trivial,(hix2 _ _ _).mono ?_⟩;rintro e w' ⟨rfl,q2,rfl⟩;obtain ⟨fn2,tm2,as2,bo2,hyr2,hR2⟩:=hY2 q2 4)
  refine hR2.mono ?_;rintro e W3 ⟨rfl,hj2⟩
  gi_wp2
  first|go_end0|go_ret|skip
  exact ⟨⟨_,rfl⟩,hj2⟩
variable {F:Fence} {n:Nat} {P:Program}
def recL (fn:FuncId) (tmps:Array Value) (ps:Array Tmp) (assign body:Code) (D:Nat) (st:LoopState) (pe:Oq Code):Loop :=
 { state:=st,pending:=pe,fn,tmps,params:=ps,assign,body,defers:=D }
theorem q10b {g:Operand} {ps:Array Tmp} {assign body:Code} {Q:Exit->Act->World->Prop} {a:Act} {w:World} (hro:F.round=none) (h1:1<=n) {gf:Nat} {lb:Array Value}
  (hg:a.eval g=.func (.func gf) #[] lb) (hFg:F.fn gf) (eg:∀ args w,(callFunc gf args).run P w=.ok (.enter gf args) w)
  (h:∀ fn,F.fn fn->CallsIn F (n - 1) P gf ((#[Value.func (Fn.yield (w.heap.size+1)) #[] #[]]:Array Value)++lb) ((w.alloc (.deferred (some []))).alloc (.loop (recL fn a.tmps ps assign body w.heap.size .ready none)))
   (rangePost F n P (w.heap.size+1) Q { a with defers:=[{ target:=.collected w.heap.size,args:=#[] }]++a.defers })) :
  (Code.rangeFunc g ps assign body).wpIn F n P Q a w:=by
 refine wpIn_rangeFunc ?_;intro fn hfn;rw [hro];have h2:=h fn hfn
 obtain ⟨W1,hW1⟩:∃ W1,W1=(w.alloc (.deferred (some []))).alloc (.loop (recL fn a.tmps ps assign body w.heap.size .ready none)):=⟨_,rfl⟩;rw [←hW1] at h2
 refine ⟨w.heap.size+1,[{ target:=.collected w.heap.size,args:=#[] }],W1,{ target:=.fn (.func gf) lb,args:=#[.func (.yield (w.heap.size+1)) #[] #[]] },W1,gf,
  #[.func (.yield (w.heap.size+1)) #[] #[]]++lb,W1,?_,?_,?_,?_,λ_=>h1,?_⟩
 ·rw [hW1];exact run_enterLoop_outer _ _ _ _ _
 ·simp only [resolve,hg]
  simp [go_sem]
 ·intro f' hf';simp [Target.leads] at hf';subst hf';exact hFg
 ·simp [invoke,go_sem,eg]
 ·exact h2
def rndPost (l:Nat) (rec:LoopState->Oq Code->Loop) (R:Ending->World->Prop):Exit->Act->World->Prop
 |.normal,_,w=>w.heap[l]?=some (.loop (rec .busy none))/\R (.returned (.bool true)) (w.putObj l (.loop (rec .ready none)))
 |.exit id,_,w=>w.heap[l]?=some (.loop (rec .busy none))/\R (.returned (.bool false)) (w.putObj l (.loop (rec .done (some (.exit id)))))
 |.ret,_,w=>w.heap[l]?=some (.loop (rec .busy none))/\R (.returned (.bool false)) (w.putObj l (.loop (rec .done (some .ret))))
 |_,_,_=>False
def AtW (W:World) (p:World->Prop):Prop:=∀ W2,W2=W->p W2
theorem q1kb {m l:Nat} {fn:FuncId} {tmps:Array Value} {ps:Array Tmp} {assign body:Code} {D:Nat} {args:Array Value} {W:World} {R:Ending->World->Prop} (hfn:F.fn fn)
  (hl:W.heap[l]?=some (.loop (recL fn tmps ps assign body D .ready none))) (hps:args.size=ps.size)
  (h:assign.wpIn (F.inRound l) m P (Exit.then (λa₁ w₁=>w₁=W/\AtW (W.putObj l (.loop (recL fn tmps ps assign body D .busy none))) λW2 =>
    body.wpIn (F.inRound l) m P (rndPost l (recL fn tmps ps assign body D) R) a₁ W2) (λ_ _ _=>False))
   { tmps:=(ps.zip args).foldl (λt (p,v)=>t.setIfInBounds p v) tmps,defers:=[] } W):YieldAt F m P l args W R:=by
 have hy:=run_yield (P:=P) (args:=args) hl hps;refine ⟨fn,_,assign,body,hy,roundIn_of_wpIn hfn (wpIn_mono h ?_)⟩;intro e a w hq;cases e with
 |normal =>
  obtain ⟨h1,h2⟩:=hq;subst h1;refine ⟨_,run_beginRound hl rfl,wpIn_mono (h2 _ rfl) ?_⟩;intro e2 a2 w2 hq2;cases e2 with
  |normal=>exact ⟨_,_,run_endRound none hq2.1,hq2.2⟩
  |exit id=>exact ⟨_,_,run_endRound (some (.exit id)) hq2.1,hq2.2⟩
  |ret=>exact ⟨_,_,run_endRound (some .ret) hq2.1,hq2.2⟩
  |goto t=>exact hq2.elim
  |panic c=>exact hq2.elim
  |outgrown=>exact hq2.elim
 |exit id=>exact hq.elim
 |goto t=>exact hq.elim
 |ret=>exact hq.elim
 |panic c=>exact hq.elim
 |outgrown=>exact hq.elim
theorem q97 {f:FuncId} {s r:BA} (h:CallOk Tryz.prog f [.c (.str s)] (.c (.str r),[])) (w:World) (hG:GW w):Calls Tryz.prog f #[.string s] w λe w'=>e=.returned (.string r)/\Bel w w':=by
 refine (h.2.2 w (λ_ _=>none) (λ_ _=>none) #[.string s] hG (by simp) (by simp) rfl ?_).mono ?_
 ·intro i u x h1 h2
  match i with
  |0=>simp at h1 h2;subst h1;subst h2;exact .c (.str s)
  |i+1=>simp at h1
 ·rintro e w' ⟨cv,Z',m',rfl,_,R,r1,_⟩
  exact ⟨by rw [q10x r1],q1je.1 R.bel⟩
theorem mo_okY:Tryz.prog.follows .mixedOrders=true:=by kernel_rfl
theorem sqz_hi:CallOk Tryz.prog 116 [.c (.str ⟨#[104,105]⟩)] (.c (.str ⟨#[104,105]⟩),[]):=qh Tryz.prog lv ⟨λ_ _=>none,λ_=>none⟩ mo_okY ⟨λ_ _ _ h=>by (cases h),λ_ _ _ _ _ h=>by (cases h)⟩ (qf (n:=30) (by kernel_rfl))
theorem sqz_no:CallOk Tryz.prog 116 [.c (.str ⟨#[]⟩)] (.c (.str ⟨#[]⟩),[]):=qh Tryz.prog lv ⟨λ_ _=>none,λ_=>none⟩ mo_okY ⟨λ_ _ _ h=>by (cases h),λ_ _ _ _ _ h=>by (cases h)⟩ (qf (n:=30) (by kernel_rfl))
theorem q10y (w:World):Calls Tryz.prog 62 #[.string ⟨#[13,10]⟩,.int .i64 0] w λe w'=>e=.returned (.string ⟨#[]⟩)/\Bel w w' :=
 (Any.strings_Repeat lays105 qa ⟨#[13,10]⟩ 0 w (by decide) (by decide)).mono λe w' h=>⟨h.1,⟨h.2.os,h.2.tape,h.2.output,h.2.size,h.2.block⟩⟩
structure BoI (W w:World) (L D:Nat) (rec:Loop) (p1 p2 p3 g B3 Be:Nat) (s:Value) (mm:Int) (out:Value) (e:Int):Prop where
 lp:W.heap[L]?=some (.loop rec)
 dd:W.heap[D]?=some (.deferred (some []))
 sp:SpI W p1 p2 p3 g s mm
 bel:Bel w W
 gw:GW W
 out:W.cell? ⟨B3,0,none⟩=some out
 outf:W.frozen? ⟨B3,0,none⟩=false
 emp:W.cell? ⟨Be,0,none⟩=some (.int .i64 e)
 empf:W.frozen? ⟨Be,0,none⟩=false
theorem gwb {w w':World} (h:GW w) (hb:Bel w w'):GW w':=BelA.gw (q1je.2 hb) ⟨h,GB.no⟩
section
variable {W W' w:World} {L D:Nat} {r r':Loop} {p1 p2 p3 g B3 Be:Nat} {s out:Value} {mm e:Int}
theorem q9t {k o:Nat} {v:Value} (h:W.cell? ⟨k,o,none⟩=some v) (hl:W.heap[L]?=some (.loop r)):k≠L:=by rintro rfl;simp [World.cell?,hl] at h
theorem qzv {k o:Nat} {v:Value} (h:W.cell? ⟨k,o,none⟩=some v) (hl:W.heap[L]?=some (.loop r)) (x:Obj):(W.putObj L x).cell? ⟨k,o,none⟩=some v :=
 (World.cell?_of_block (World.putObj_heap_other (q9t h hl))).trans h
theorem qzw {k o:Nat} {v:Value} (h:W.cell? ⟨k,o,none⟩=some v) (hl:W.heap[L]?=some (.loop r)) (hf:W.frozen? ⟨k,o,none⟩=false) (x:Obj):(W.putObj L x).frozen? ⟨k,o,none⟩=false :=
 (World.frozen?_of_block (World.putObj_heap_other (q9t h hl))).trans hf
theorem BoI.put (h:BoI W w L D r p1 p2 p3 g B3 Be s mm out e) (hG:GW w) (hL:w.heap.size<=L) (hD:D≠L):BoI (W.putObj L (.loop r')) w L D r' p1 p2 p3 g B3 Be s mm out e:=by
 have hlt:L<W.heap.size:=(y6q.1 h.lp).1;have hb:Bel w (W.putObj L (.loop r')):=⟨h.bel.os,h.bel.tape,h.bel.output,by simpa using h.bel.size,λk hk=>(World.putObj_heap_other (by omega)).trans (h.bel.block k hk)⟩
 exact ⟨World.putObj_heap_same hlt,(World.putObj_heap_other hD).trans h.dd,
  ⟨qzv h.sp.sep h.lp _,qzv h.sp.s h.lp _,qzw h.sp.s h.lp h.sp.fr _,qzv h.sp.sv h.lp _,qzv h.sp.g0 h.lp _,qzv h.sp.g1 h.lp _,qzv h.sp.ml h.lp _⟩,
  hb,gwb hG hb,qzv h.out h.lp _,qzw h.out h.lp h.outf _,qzv h.emp h.lp _,qzw h.emp h.lp h.empf _⟩
theorem BoI.later (h:BoI W w L D r p1 p2 p3 g B3 Be s mm out e) (hb:Bel W W') (hG:GW w):BoI W' w L D r p1 p2 p3 g B3 Be s mm out e:=by
 have c:∀ {k o v},W.cell? ⟨k,o,none⟩=some v->W'.cell? ⟨k,o,none⟩=some v:=λhc=>(hb.cell _ (q9s hc)).trans hc;have f:∀ {k o v},W.cell? ⟨k,o,none⟩=some v->W.frozen? ⟨k,o,none⟩=false->W'.frozen? ⟨k,o,none⟩=false:=λhc hf=>(hb.cells.2 _ _ (q9s hc)).trans hf
 have hb2:Bel w W':=h.bel.trans hb
 exact ⟨(hb.block _ (y6q.1 h.lp).1).trans h.lp,(hb.block _ (y6q.1 h.dd).1).trans h.dd,
  ⟨c h.sp.sep,c h.sp.s,f h.sp.s h.sp.fr,c h.sp.sv,c h.sp.g0,c h.sp.g1,c h.sp.ml⟩,hb2,gwb hG hb2,c h.out,f h.out h.outf,c h.emp,f h.emp h.empf⟩
theorem q1cw {k j o:Nat} {v x:Value} (h:W.cell? ⟨k,o,none⟩=some v) (hj:k≠j):(W.setCell ⟨j,0,none⟩ x).cell? ⟨k,o,none⟩=some v :=
 (World.cell?_of_block (y26q W ⟨j,0,none⟩ x k hj)).trans h
theorem ml_lt (hG:GW w):0<w.heap.size:=by have h:=hG;unfold GW at h;obtain ⟨m,hm⟩:=h.1;exact q9s hm
theorem BoI.setO (h:BoI W w L D r p1 p2 p3 g B3 Be s mm out e) (hG:GW w) (v:Value) (hk:w.heap.size<=B3) (h1:p1≠B3) (h2:p2≠B3) (h3:p3≠B3) (hg:g≠B3) (hE:Be≠B3) (hD:D≠B3):BoI (W.setCell ⟨B3,0,none⟩ v) w L D r p1 p2 p3 g B3 Be s mm v e:=by
 have hb:Bel w (W.setCell ⟨B3,0,none⟩ v):=h.bel.setCell hk v;have hL:=q9t h.out h.lp
 have hml:=ml_lt hG
 exact ⟨(y26q W ⟨B3,0,none⟩ v L (Ne.symm hL)).trans h.lp,(y26q W ⟨B3,0,none⟩ v D hD).trans h.dd,
  ⟨q1cw h.sp.sep h1,q1cw h.sp.s h2,by rw [World.frozen?_setCell];exact h.sp.fr,q1cw h.sp.sv h3,q1cw h.sp.g0 hg,q1cw h.sp.g1 hg,q1cw h.sp.ml (by omega)⟩,
  hb,gwb hG hb,World.cell?_setCell_same' _ _ _ (by rw [h.out];rfl),by rw [World.frozen?_setCell];exact h.outf,q1cw h.emp hE,by rw [World.frozen?_setCell];exact h.empf⟩
theorem BoI.setE (h:BoI W w L D r p1 p2 p3 g B3 Be s mm out e) (hG:GW w) (n:Int) (hk:w.heap.size<=Be) (h1:p1≠Be) (h2:p2≠Be) (h3:p3≠Be) (hg:g≠Be) (hE:B3≠Be) (hD:D≠Be):BoI (W.setCell ⟨Be,0,none⟩ (.int .i64 n)) w L D r p1 p2 p3 g B3 Be s mm out n:=by
 have hb:Bel w (W.setCell ⟨Be,0,none⟩ (.int .i64 n)):=h.bel.setCell hk _;have hL:=q9t h.emp h.lp
 have hml:=ml_lt hG
 exact ⟨(y26q W ⟨Be,0,none⟩ _ L (Ne.symm hL)).trans h.lp,(y26q W ⟨Be,0,none⟩ _ D hD).trans h.dd,
  ⟨q1cw h.sp.sep h1,q1cw h.sp.s h2,by rw [World.frozen?_setCell];exact h.sp.fr,q1cw h.sp.sv h3,q1cw h.sp.g0 hg,q1cw h.sp.g1 hg,q1cw h.sp.ml (by omega)⟩,
  hb,gwb hG hb,q1cw h.out hE,by rw [World.frozen?_setCell];exact h.outf,World.cell?_setCell_same' _ _ _ (by rw [h.emp];rfl),by rw [World.frozen?_setCell];exact h.empf⟩
theorem BoI.setS (h:BoI W w L D r p1 p2 p3 g B3 Be s mm out e) (hG:GW w) (v:Value) (hk:w.heap.size<=p2) (h1:p1≠p2) (h3:p3≠p2) (hg:g≠p2) (hE:B3≠p2) (hF:Be≠p2) (hD:D≠p2):BoI (W.setCell ⟨p2,0,none⟩ v) w L D r p1 p2 p3 g B3 Be v mm out e:=by
 have hb:Bel w (W.setCell ⟨p2,0,none⟩ v):=h.bel.setCell hk v;have hL:=q9t h.sp.s h.lp
 have hml:=ml_lt hG
 exact ⟨(y26q W ⟨p2,0,none⟩ _ L (Ne.symm hL)).trans h.lp,(y26q W ⟨p2,0,none⟩ _ D hD).trans h.dd,
  ⟨q1cw h.sp.sep h1,World.cell?_setCell_same' _ _ _ (by rw [h.sp.s];rfl),by rw [World.frozen?_setCell];exact h.sp.fr,q1cw h.sp.sv h3,q1cw h.sp.g0 hg,q1cw h.sp.g1 hg,q1cw h.sp.ml (by omega)⟩,
  hb,gwb hG hb,q1cw h.out hE,by rw [World.frozen?_setCell];exact h.outf,q1cw h.emp hF,by rw [World.frozen?_setCell];exact h.empf⟩
end
theorem qae {W:World} {v:Value} {l:List UInt8} (h:(Conv.bytesToString v).run Tryz.prog W=.ok (.string ⟨l.toArray⟩) W) (hv:∃ A n c,v=.slice A n c):(convert 26 9 v).run Tryz.prog W=.ok (.string ⟨l.toArray⟩) W:=by obtain ⟨A,n,c,rfl⟩:=hv;simp only [convert,y9q,q1ca Tryz.underlying26,q1ca Tryz.underlying9,q1ca Tryz.underlying5,y4q,h]
theorem qaa {W:World} {b off:Nat} (h0:W.cell? ⟨b,off,none⟩=some (.int .u8 104)) (h1:W.cell? ⟨b,off+1,none⟩=some (.int .u8 105)):(convert 26 9 (.slice (some ⟨b,off,none⟩) 2 2)).run Tryz.prog W=.ok (.string ⟨#[104,105]⟩) W:=by
 refine qae (l:=[104,105]) (q8y (Z:=λb' o=>W.cell? ⟨b',o,none⟩) (es:=[[.int .u8 104],[.int .u8 105]]) (λ_ _ _ h=>h) ?_ rfl) ⟨_,_,_,rfl⟩;refine .sl _ 2 2 1 b off (λj=>if j=0 then .int .u8 104 else .int .u8 105) _ rfl (by omega) (by decide) (by simp) (λ_=>rfl) ?_ ?_ (by simp)
 ·intro i e j x he hx
  match i,j with
  |0,0=>simpa using h0
  |0,j+1=>simp at he;subst he;simp at hx
  |1,0=>simpa using h1
  |1,j+1=>simp at he;subst he;simp at hx
  |i+2,_=>simp at he
 ·intro i e j x he hx
  match i,j with
  |0,0=>simp at he;subst he;simp at hx;subst hx;exact .int _ _
  |0,j+1=>simp at he;subst he;simp at hx
  |1,0=>simp at he;subst he;simp at hx;subst hx;exact .int _ _
  |1,j+1=>simp at he;subst he;simp at hx
  |i+2,_=>simp at he
theorem qab {W:World} (a:Addr):(convert 26 9 (.slice (some a) 0 0)).run Tryz.prog W=.ok (.string ⟨#[]⟩) W:=by
 refine qae (l:=[]) (q8y (Z:=λ_ _=>none) (es:=[]) (by simp) ?_ rfl) ⟨_,_,_,rfl⟩
 exact q10t _ (by decide) (λh=>by cases h)
theorem cut_le (k e:Nat) {x:Nat}:(Question.appendCap k 0 e).cut x<=maxLen∨9223372036854775807<k:=by
 by_cases hk:9223372036854775807<k
 ·exact .inr hk
 ·left
  simp only [Question.cut];have:x % (2 ^ 63 - k)<2 ^ 63 - k:=Nat.mod_lt _ (by omega)
  unfold maxLen;omega
theorem q1b (W:World) (o:Obj) {k:Nat} (h:k=W.heap.size):(W.alloc o).heap[k]?=some o:=by subst h;exact World.alloc_heap_new W o
theorem q1d {W:World} {x:Obj} (o:Obj) {k:Nat} (h:W.heap[k]?=some x):(W.alloc o).heap[k]?=some x:=(Below.heap_alloc W o k (y6q.1 h).1).trans h
theorem six (w:World) (o0 o1 o2 o3 o4 o5:Obj):((((((w.alloc o0).alloc o1).alloc o2).alloc o3).alloc o4).alloc o5).heap[w.heap.size]?=some o0/\((((((w.alloc o0).alloc o1).alloc o2).alloc o3).alloc o4).alloc o5).heap[w.heap.size+1]?=some o1 /\
  ((((((w.alloc o0).alloc o1).alloc o2).alloc o3).alloc o4).alloc o5).heap[w.heap.size+2]?=some o2/\((((((w.alloc o0).alloc o1).alloc o2).alloc o3).alloc o4).alloc o5).heap[w.heap.size+3]?=some o3 /\
  ((((((w.alloc o0).alloc o1).alloc o2).alloc o3).alloc o4).alloc o5).heap[w.heap.size+4]?=some o4/\((((((w.alloc o0).alloc o1).alloc o2).alloc o3).alloc o4).alloc o5).heap[w.heap.size+5]?=some o5 :=
 ⟨q1d _ (q1d _ (q1d _ (q1d _ (q1d _ (q1b _ _ rfl))))),q1d _ (q1d _ (q1d _ (q1d _ (q1b _ _ (by simp))))),q1d _ (q1d _ (q1d _ (q1b _ _ (by simp)))),q1d _ (q1d _ (q1b _ _ (by simp))),q1d _ (q1b _ _ (by simp)),q1b _ _ (by simp)⟩
theorem q9p {W:World} {k o:Nat} {cs:Array Value} {t:TypeId} {fz:Nat×Nat} (h:W.heap[k]?=some (.cells cs t fz)):W.cell? ⟨k,o,none⟩=cs[o]?:=by simp [World.cell?,h]
theorem frz_at {W:World} {k:Nat} {cs:Array Value} {t:TypeId} (h:W.heap[k]?=some (.cells cs t (0,0))):W.frozen? ⟨k,0,none⟩=false:=by simp [World.frozen?,h]
set_option maxHeartbeats 4000000 in
set_option maxRecDepth 100000 in
theorem bod_in (b off c:Nat) (w:World) (hc:4<=c) (hcm:c<=maxLen) (hG:GW w)
  (h0:w.cell? ⟨b,off,none⟩=some (.int .u8 104)) (h1:w.cell? ⟨b,off+1,none⟩=some (.int .u8 105)) (h2:w.cell? ⟨b,off+2,none⟩=some (.int .u8 13)) (h3:w.cell? ⟨b,off+3,none⟩=some (.int .u8 10)) :
  CallsIn Fence.wide 6 Tryz.prog 82 #[.slice (some ⟨b,off,none⟩) 4 c] w λe w'=>∃ g c',e=.returned (.slice (some ⟨g,0,none⟩) 4 c')/\4<=c'/\c'<=maxLen/\w.heap.size<=g/\Bel w w' /\
   w'.cell? ⟨g,0,none⟩=some (.int .u8 104)/\w'.cell? ⟨g,1,none⟩=some (.int .u8 105)/\w'.cell? ⟨g,2,none⟩=some (.int .u8 13)/\w'.cell? ⟨g,3,none⟩=some (.int .u8 10):=by
 obtain ⟨mm,hml⟩:∃ mm,w.cell? ⟨0,0,none⟩=some (.int .i64 mm):=by have h:=hG;unfold GW at h;exact h.1
 have kc:=Lib.run_convert_bytes_const (P:=Tryz.prog) ((w.alloc (.cells #[.slice none 0 0] 26)).alloc (.cells #[.int .i64 0] 3)) 26 5 #[.int .u8 13,.int .u8 10] 2 2 Tryz.underlying26 Tryz.underlying5;simp only [World.size_alloc] at kc;refine callsIn_of_wp_marks Tryz.func82 rfl trivial ?_ rfl;simp only [Tryz.ntmps82,y41q,x9q,x8q,Nat.reduceAdd,Nat.reduceSub,Array.replicate_succ,Array.replicate_zero,List.push_toArray,List.append_toArray,y14q,y8q]
 gi_wp2_with (first|(rw [kc];simp only [Result.andThen,Oper.uponIn_value])|skip;refine ⟨trivial,(callsIn_wide.2 (q1dc _ _ _ _ _ _ _)).mono ?_⟩;rintro e w' ⟨rfl,rfl⟩)
 generalize hW0:spW _ _ _=W0;have hs0:W0.heap.size=w.heap.size+6:=by rw [←hW0];simp [spW]
 have hb0:Bel w W0:=by rw [←hW0];exact ((((((Bel.refl w).alloc _).alloc _).alloc _).alloc _).alloc _).alloc _
 have s6:=six w (.cells #[.slice none 0 0] 26) (.cells #[.int .i64 0] 3) (.cells #[.int .u8 13,.int .u8 10] 5 (2,3)) (.cells #[.slice (some ⟨b,off,none⟩) 4 c] 26) (.cells #[.slice (some ⟨w.heap.size+1+1,0,none⟩) 2 2] 26) (.cells #[.int .i64 0] 3);unfold spW at hW0;rw [hW0] at s6;obtain ⟨b0,b1,b2,b3,b4,b5⟩:=s6;clear hW0 kc;refine q10b rfl (by decide) (gf:=157) (lb:=#[.pointer (some ⟨w.heap.size+1+1+1+1,0,none⟩),.pointer (some ⟨w.heap.size+1+1+1,0,none⟩),.pointer (some ⟨w.heap.size+1+1+1+2,0,none⟩)]) rfl trivial (enters_of Tryz.func157 (by kernel_rfl) rfl) ?_
 intro fn hfn;generalize hW1:(W0.alloc (.deferred (some []))).alloc _=W1;have hK:W1.heap[w.heap.size+6]?=some (.deferred (some [])):=by rw [←hW1];exact q1d _ (q1b _ _ hs0.symm)
 have hL:=q1b (W0.alloc (.deferred (some []))) _ (k:=w.heap.size+7) (by simp [hs0]) |> (λh=>(congrArg (λW:World=>W.heap[w.heap.size+7]?) hW1).symm.trans h)
 have hold:∀ k x,W0.heap[k]?=some x->W1.heap[k]?=some x:=λk x h=>by rw [←hW1];exact q1d _ (q1d _ h)
 have hb1:Bel w W1:=by rw [←hW1];exact (hb0.alloc _).alloc _
 replace b0:=hold _ _ b0
 replace b1:=hold _ _ b1
 replace b2:=hold _ _ b2
 replace b3:=hold _ _ b3
 replace b4:=hold _ _ b4
 replace b5:=hold _ _ b5
 clear hW1 hold hb0;rw [hs0] at hL ⊢;revert hL;generalize hrec:recL fn _ _ _ _ _=rec;intro hL
 have hI1:SpI W1 (w.heap.size+1+1+1+1) (w.heap.size+1+1+1) (w.heap.size+1+1+1+2) (w.heap.size+1+1) (.slice (some ⟨b,off,none⟩) 4 c) mm :=
  ⟨(q9p b4).trans rfl,(q9p b3).trans rfl,frz_at b3,(q9p b5).trans rfl,(q9p b2).trans rfl,(q9p b2).trans rfl,by rw [hb1.cell _ (q9s hml)];exact hml⟩
 have hBI:BoI W1 w (w.heap.size+7) (w.heap.size+6) (rec .ready none) (w.heap.size+1+1+1+1) (w.heap.size+1+1+1) (w.heap.size+1+1+1+2) (w.heap.size+1+1) w.heap.size (w.heap.size+1) (.slice (some ⟨b,off,none⟩) 4 c) mm (.slice none 0 0) 0 :=
  ⟨hL,hK,hI1,hb1,gwb hG hb1,(q9p b0).trans rfl,frz_at b0,(q9p b1).trans rfl,frz_at b1⟩
 have hold:∀ {o:Nat} {v:Value},w.cell? ⟨b,o,none⟩=some v->W1.cell? ⟨b,o,none⟩=some v:=λh=>by rw [hb1.cell _ (q9s h)];exact h
 refine (q1d6 (w.heap.size+6+1) _ _ _ _ b off c mm W1 hc hcm hI1 (hold h0) (hold h1) (hold h2) (hold h3)
  (λW=>∃ q cap cs,BoI W w (w.heap.size+7) (w.heap.size+6) (rec .ready none) (w.heap.size+1+1+1+1) (w.heap.size+1+1+1) (w.heap.size+1+1+1+2) (w.heap.size+1+1) w.heap.size (w.heap.size+1) (.slice (some ⟨b,off,none⟩) 4 c) mm (.slice (some ⟨q,0,none⟩) 4 cap) 0/\w.heap.size+8<=q/\4<=cap/\cap<=maxLen/\W.heap[q]?=some (.cells cs 5) /\
   cs[0]?=some (.int .u8 104)/\cs[1]?=some (.int .u8 105)/\cs[2]?=some (.int .u8 13)/\cs[3]?=some (.int .u8 10))
  (λW=>∃ q cap cs a c',BoI W w (w.heap.size+7) (w.heap.size+6) (rec .ready none) (w.heap.size+1+1+1+1) (w.heap.size+1+1+1) (w.heap.size+1+1+1+2) (w.heap.size+1+1) w.heap.size (w.heap.size+1) (.slice (some a) 0 c') mm (.slice (some ⟨q,0,none⟩) 4 cap) 1/\w.heap.size+8<=q/\4<=cap/\cap<=maxLen/\W.heap[q]?=some (.cells cs 5) /\
   cs[0]?=some (.int .u8 104)/\cs[1]?=some (.int .u8 105)/\cs[2]?=some (.int .u8 13)/\cs[3]?=some (.int .u8 10))
  (λW h=>by obtain ⟨q,cap,cs,h,_⟩:=h;exact h.sp) ?_ ?_).mono ?_
 ·intro q m
  have hL':=hL;rw [←hrec] at hL';refine q1kb trivial (show (W1.drewN q).heap[_]?=_ from hL') rfl ?_
  rw [hrec]
  gi_wp2_with (rw [Oper.semAt_eq _ _ _ (λc h=>by cases h)];go_simp;try go_bits)
  intro W2 hW2;have hB:BoI W2 w (w.heap.size+7) (w.heap.size+6) (rec .busy none) (w.heap.size+1+1+1+1) (w.heap.size+1+1+1) (w.heap.size+1+1+1+2) (w.heap.size+1+1) w.heap.size (w.heap.size+1) (.slice (some ⟨b,off,none⟩) 4 c) mm (.slice none 0 0) 0:=by rw [hW2];exact (hBI.later ((Bel.refl W1).drewN q) hG).put hG (by omega) (by omega)
  clear hW2 hL';have e0:W2.cell? ⟨b,off,none⟩=some (.int .u8 104):=by rw [hB.bel.cell _ (q9s h0)];exact h0
  have e1:W2.cell? ⟨b,off+1,none⟩=some (.int .u8 105):=by rw [hB.bel.cell _ (q9s h1)];exact h1
  gi_wp2_with (first
   |(rw [qaa e0 e1];simp only [Result.andThen,Oper.uponIn_value])
   |(rw [Oper.semAt_eq _ _ _ (λc h=>by cases h)];go_simp;try go_bits))
  refine ⟨trivial,(λh=>by cases h),CallsIn.mono (show CallsIn (Fence.wide.inRound _) _ _ _ _ _ _ from callsIn_wide.2 (q97 sqz_hi _ hB.gw)) ?_⟩
  rintro e w2 ⟨rfl,hb2⟩
  replace hB:=hB.later hb2 hG
  have g1:=hB.out;have g2:=hB.emp
  have g3:=hB.outf;have g4:=hB.empf
  gi_wp2_with (rw [Oper.semAt_eq _ _ _ (λc h=>by cases h)];go_simp;try go_bits)
  clear g1 g2 g3 g4;have hstr:((⟨#[]⟩++⟨#[104,105]⟩:BA)++⟨#[13,10]⟩)=⟨#[104,105,13,10]⟩:=rfl
  have hstr2:(⟨#[]⟩++⟨#[104,105]⟩:BA)=⟨#[104,105]⟩:=rfl;have hstr3:(⟨#[104,105]⟩++⟨#[13,10]⟩:BA)=⟨#[104,105,13,10]⟩:=rfl
  have g0:w2.drew.cell? ⟨w.heap.size,0,none⟩=some (.slice none 0 0):=hB.out;have g1:w2.drew.cell? ⟨w.heap.size+1,0,none⟩=some (.int .i64 0):=hB.emp
  have g2:w2.drew.frozen? ⟨w.heap.size,0,none⟩=false:=hB.outf;have g3:w2.drew.frozen? ⟨w.heap.size+1,0,none⟩=false:=hB.empf
  have hmo:=mo_okY;have hsem:∀ (l:Nat) (ρ:Operand->Value) (o:Oper),(∀ c,o.op≠.defer c)->Oper.semAt (some l) ρ o=execOp ρ o:=Oper.semAt_some
  have hfr:Fence.wide.fn 62:=trivial;have hdp:Fence.wide.depth.isSome=false:=rfl
  gi_region_with_o (gi_at_call 62;refine (CallsIn.inRound _ (callsIn_wide.2 (q10y _))).mono ?_;rintro e w3 ⟨rfl,hb3⟩;have hb4:=(Bel.refl w2).drew.trans hb3;have q0:=(hB.later hb4 hG).out;have q2:=(hB.later hb4 hG).outf;have q4:∀ X,(w3.alloc X).cell? ⟨w.heap.size,0,none⟩=some (.slice none 0 0):=λX=>(hB.later (hb4.alloc X) hG).out;have q5:∀ X,(w3.alloc X).frozen? ⟨w.heap.size,0,none⟩=false:=λX=>(hB.later (hb4.alloc X) hG).outf;have q6:∀ X,(w3.alloc X).drew.cell? ⟨w.heap.size,0,none⟩=some (.slice none 0 0):=λX=>(hB.later (hb4.alloc X) hG).out;have q7:∀ X,(w3.alloc X).drew.frozen? ⟨w.heap.size,0,none⟩=false:=λX=>(hB.later (hb4.alloc X) hG).outf)
  all_goals
   generalize hcap:(Question.appendCap 4 0 5).cut _=cap;have hcap4:4<=cap:=by rw [←hcap];simp [Question.cut]
   have hcapm:cap<=maxLen:=by rw [←hcap];exact (cut_le 4 5).resolve_right (by decide)
   generalize hcs:(#[Value.int .u8 104,.int .u8 105,.int .u8 13,.int .u8 10]++Builtin.zeroCells _ _:Array Value)=cs;have hc0:cs[0]?=some (.int .u8 104)/\cs[1]?=some (.int .u8 105)/\cs[2]?=some (.int .u8 13)/\cs[3]?=some (.int .u8 10):=by rw [←hcs];refine ⟨?_,?_,?_,?_⟩ <;> (rw [y23q (by simp)];rfl)
   have hlt3:=(y6q.1 (hB.later hb4 hG).lp).1;have hB4:=(((hB.later (hb4.alloc (.cells cs 5)) hG).setO hG (.slice (some ⟨w3.heap.size,0,none⟩) 4 cap) (by omega) (by omega) (by omega) (by omega) (by omega) (by omega) (by omega)).later ((Bel.refl _).drew) hG)
   have hQ:((w3.alloc (.cells cs 5)).setCell ⟨w.heap.size,0,none⟩ (.slice (some ⟨w3.heap.size,0,none⟩) 4 cap)).drew.heap[w3.heap.size]?=some (.cells cs 5):=(y26q _ ⟨w.heap.size,0,none⟩ _ w3.heap.size (show w3.heap.size≠w.heap.size by omega)).trans (q1b _ _ rfl)
   generalize ((w3.alloc (.cells cs 5)).setCell ⟨w.heap.size,0,none⟩ (.slice (some ⟨w3.heap.size,0,none⟩) 4 cap)).drew=W4 at hB4 hQ;clear q0 q2 q4 q5 q6 q7 hcap hcs;have k1:=hB4.emp
   have k2:=hB4.empf
   gi_wp2_with (rw [Oper.semAt_eq _ _ _ (λc h=>by cases h)];go_simp;try go_bits)
   have hB5:=hB4.setE hG 0 (by omega) (by omega) (by omega) (by omega) (by omega) (by omega) (by omega)
   exact ⟨hB5.lp,rfl,w3.heap.size,cap,hB5.put hG (by omega) (by omega),by omega,hcap4,hcapm,cs,(World.putObj_heap_other (by omega)).trans ((y26q _ ⟨w.heap.size+1,0,none⟩ _ w3.heap.size (show w3.heap.size≠w.heap.size+1 by omega)).trans hQ),hc0.1,hc0.2.1,hc0.2.2.1,hc0.2.2.2⟩
 ·intro W q m a c' hJ
  obtain ⟨q0,cap,cs,hJB,h8,hc4,hcm4,hq,c0,c1,c2,c3⟩:=hJ;have hS:=hJB.setS hG (.slice (some a) 0 c') (by omega) (by omega) (by omega) (by omega) (by omega) (by omega) (by omega)
  refine ⟨hS.sp,?_⟩;have hL':=hS.lp
  rw [←hrec] at hL';refine q1kb trivial (show (World.drewN _ q).heap[_]?=_ from hL') rfl ?_
  rw [hrec]
  gi_wp2_with (rw [Oper.semAt_eq _ _ _ (λc h=>by cases h)];go_simp;try go_bits)
  intro W2 hW2;have hB:BoI W2 w (w.heap.size+7) (w.heap.size+6) (rec .busy none) (w.heap.size+1+1+1+1) (w.heap.size+1+1+1) (w.heap.size+1+1+1+2) (w.heap.size+1+1) w.heap.size (w.heap.size+1) (.slice (some a) 0 c') mm (.slice (some ⟨q0,0,none⟩) 4 cap) 0:=by rw [hW2];exact (hS.later ((Bel.refl _).drewN q) hG).put hG (by omega) (by omega)
  have hQ2:W2.heap[q0]?=some (.cells cs 5):=by rw [hW2];exact (World.putObj_heap_other (by omega)).trans ((y26q _ ⟨w.heap.size+1+1+1,0,none⟩ _ q0 (show q0≠w.heap.size+1+1+1 by omega)).trans hq)
  clear hW2 hL' hS hJB hq
  gi_wp2_with (first
   |(rw [qab a];simp only [Result.andThen,Oper.uponIn_value])
   |(rw [Oper.semAt_eq _ _ _ (λc h=>by cases h)];go_simp;try go_bits))
  refine ⟨trivial,(λh=>by cases h),CallsIn.mono (show CallsIn (Fence.wide.inRound _) _ _ _ _ _ _ from callsIn_wide.2 (q97 sqz_no _ hB.gw)) ?_⟩
  rintro e w2 ⟨rfl,hb2⟩
  replace hB:=hB.later hb2 hG
  replace hQ2:=(hb2.block _ (y6q.1 hQ2).1).trans hQ2
  have g2:=hB.emp;have g4:=hB.empf
  gi_wp2_with (rw [Oper.semAt_eq _ _ _ (λc h=>by cases h)];go_simp;try go_bits)
  have hB5:=hB.setE hG 1 (by omega) (by omega) (by omega) (by omega) (by omega) (by omega) (by omega)
  exact ⟨hB5.lp,rfl,q0,cap,⟨a,c',hB5.put hG (by omega) (by omega)⟩,h8,hc4,hcm4,cs,(World.putObj_heap_other (by omega)).trans ((y26q _ ⟨w.heap.size+1,0,none⟩ _ q0 (show q0≠w.heap.size+1 by omega)).trans hQ2),c0,c1,c2,c3⟩
 ·rintro e W3 ⟨⟨v,rfl⟩,q,cap,cs,a,c',hB,h8,hc4,hcm4,hq,c0,c1,c2,c3⟩
  have hend:(Instr.endLoop (w.heap.size+6+1)).run Tryz.prog W3=.ok none (W3.putObj (w.heap.size+6+1) (.loop { rec .ready none with state:=.exhausted })):=by
   have h:=run_endLoop (P:=Tryz.prog) hB.lp (by rw [←hrec];simp [recL])
   rw [show w.heap.size+7=w.heap.size+6+1 from rfl] at h
   have hp:(rec .ready none).pending=none:=by rw [←hrec];rfl
   rw [h];show Result.ok (rec .ready none).pending _=_
   rw [hp]
   first|done|rfl|(simp only [hp];done)
  have hB4:BoI (W3.putObj (w.heap.size+6+1) (.loop { rec .ready none with state:=.exhausted })) w (w.heap.size+7) (w.heap.size+6) { rec .ready none with state:=.exhausted } _ _ _ _ _ _ _ mm _ 1:=hB.put hG (by omega) (by omega)
  have hQ4:(W3.putObj (w.heap.size+6+1) (.loop { rec .ready none with state:=.exhausted })).heap[q]?=some (.cells cs 5):=(World.putObj_heap_other (by omega)).trans hq
  generalize W3.putObj (w.heap.size+6+1) (.loop { rec .ready none with state:=.exhausted })=W4 at hend hB4 hQ4
  refine ⟨none,W4,hend,?_⟩;have k1:=hB4.out
  have k2:=hB4.dd;simp only
  gi_wp2
  have hD:(W4.putObj (w.heap.size+6) (.deferred none)).heap[q]?=some (.cells cs 5):=(World.putObj_heap_other (by omega)).trans hQ4
  have hbel:Bel w (W4.putObj (w.heap.size+6) (.deferred none)):=⟨hB4.bel.os,hB4.bel.tape,hB4.bel.output,by simpa using hB4.bel.size,λk hk=>(World.putObj_heap_other (by omega)).trans (hB4.bel.block k hk)⟩
  refine ⟨by simp,.inl ⟨_,_,rfl,run_takeDeferred k2,?_⟩⟩
  exact ⟨_,results_tmp rfl _ _ _,q,cap,rfl,hc4,hcm4,by omega,hbel,(q9p hD).trans c0,(q9p hD).trans c1,(q9p hD).trans c2,(q9p hD).trans c3⟩
theorem qpw {es:List (List C)} (h:isHi es=true):es=[[.int .u8 104],[.int .u8 105],[.int .u8 13],[.int .u8 10]]:=by
 unfold isHi at h;split at h
 ·simp only [x6q,beq_iff_eq] at h
  obtain ⟨rfl,rfl,rfl,rfl⟩:=h;rfl
 ·cases h
theorem q86 {es r:List (List C)} (h:bodP es=some r):CallOk Tryz.prog 82 [.c (.sl es)] (.c (.sl r),[]):=by
 unfold bodP at h;cases hh:isHi es with
 |false =>
  rw [hh,cond_false] at h;unfold bodG at h;split at h
  case isFalse=>cases h
  rename_i hex;injection h with h
  subst h;exact (Classical.choose_spec hex).2
 |true =>
 rw [hh,x22q] at h;injection h with h
 subst h;have hes:=qpw hh
 subst hes;refine ⟨rfl,(λb hb=>by cases hb),λw Z Y cargs hG hZ hY hs hr=>?_⟩
 have hs1:cargs.size=1:=hs;obtain ⟨u,hu⟩:∃ u,cargs[0]?=some u:=⟨cargs[0]'(by omega),y3q _⟩
 have r0:=hr 0 u _ hu rfl;obtain rfl:cargs=#[u]:=by
  apply Array.ext (by simpa using hs1)
  intro i h1 h2;have:i=0:=by simp at h2;omega
  subst this;rw [y3q h1] at hu;injection hu
 cases r0 with
 |c r0 =>
 cases r0 with
 |sl A n c k b off U _ hl hc hm hk hA hz hr' hN =>
  have hn:n=4:=hl.symm;subst hn;have hk1:k=1:=(hk [.int .u8 104] (by simp)).symm
  subst hk1;have hA':=hA (by simp)
  subst hA';have cellk:∀ (i:Nat) (x:Int),([[C.int .u8 104],[.int .u8 105],[.int .u8 13],[.int .u8 10]]:List (List C))[i]?=some [.int .u8 x]->w.cell? ⟨b,off+i,none⟩=some (.int .u8 x):=λi x hi=>by
   have z:=hZ _ _ _ (hz i _ 0 _ hi rfl);have r1:=hr' i _ 0 _ hi rfl
   rw [Nat.mul_one,Nat.add_zero] at z r1;generalize U i=v at z r1;cases r1;exact z
  refine (callsIn_wide.1 (bod_in b off c w hc hm hG (cellk 0 _ rfl) (cellk 1 _ rfl) (cellk 2 _ rfl) (cellk 3 _ rfl))).mono ?_;rintro e w' ⟨g,c',rfl,h4,hcm,hg,hb,c0,c1,c2,c3⟩;let Z':ZMap:=λb' o=>if b'=g then w'.cell? ⟨g,o,none⟩ else Z b' o
  have hzg:∀ b' o u,Z b' o=some u->b'≠g:=λb' o u h e=>by have:=q9s (hZ _ _ _ h);omega
  have hup:ZUp (wb w) Z Z':=⟨λb' o u h=>by simp [Z',hzg b' o u h,h],λb' o u h=>by
   by_cases e:b'=g
   ·right;subst e;exact .inl hg
   ·left;simpa [Z',e] using h⟩
  have hZ':∀ b' o u,Z' b' o=some u->w'.cell? ⟨b',o,none⟩=some u:=λb' o u h=>by
   by_cases e:b'=g
   ·subst e;simpa [Z'] using h
   ·have h1:Z b' o=some u:=by simpa [Z',e] using h
    have h2:=hZ _ _ _ h1;rw [hb.cell _ (q9s h2)];exact h2
  refine ⟨_,Z',λ_=>none,rfl,hup,⟨q1je.2 hb,⟨hG,GB.no⟩,hZ',(λ_ _ _ h=>by cases h),by simp,by simp,by simp,by simp,by simp⟩,.c ?_,λi h=>absurd rfl h⟩
  have hget:∀ (i:Nat) (e:List C) (j:Nat) (x:C),([[C.int .u8 104],[.int .u8 105],[.int .u8 13],[.int .u8 10]]:List (List C))[i]?=some e->e[j]?=some x->j=0/\∃ n:Int,x=.int .u8 n/\w'.cell? ⟨g,i,none⟩=some (.int .u8 n):=by
   intro i e j x he hx
   match i,j with
   |0,0=>simp at he;subst he;simp at hx;subst hx;exact ⟨rfl,_,rfl,c0⟩
   |1,0=>simp at he;subst he;simp at hx;subst hx;exact ⟨rfl,_,rfl,c1⟩
   |2,0=>simp at he;subst he;simp at hx;subst hx;exact ⟨rfl,_,rfl,c2⟩
   |3,0=>simp at he;subst he;simp at hx;subst hx;exact ⟨rfl,_,rfl,c3⟩
   |0,j+1=>simp at he;subst he;simp at hx
   |1,j+1=>simp at he;subst he;simp at hx
   |2,j+1=>simp at he;subst he;simp at hx
   |3,j+1=>simp at he;subst he;simp at hx
   |i+4,_=>simp at he
  refine .sl _ 4 c' 1 g 0 (λj=>(w'.cell? ⟨g,j,none⟩).getD undef) _ rfl h4 hcm (by simp) (λ_=>rfl) ?_ ?_ (by simp)
  ·intro i e j x he hx
   obtain ⟨rfl,n,rfl,hcl⟩:=hget i e j x he hx;simp [Z',hcl]
  ·intro i e j x he hx
   obtain ⟨rfl,n,rfl,hcl⟩:=hget i e j x he hx;simp only [Nat.mul_one,Nat.add_zero,hcl,Option.getD_some];exact .int _ _
end Go.Proofs.YtmlcmoaonaomfaaGreatDoor
