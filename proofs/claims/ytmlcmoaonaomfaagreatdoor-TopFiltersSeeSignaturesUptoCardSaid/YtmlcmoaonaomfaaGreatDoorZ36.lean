/- (*strings.byteStringReplacer).Replace, at the replacer of rules.quote. -/
import Derived.Test.YtmlcmoaonaomfaaGreatDoorZ35
import Derived.Test.YtmlcmoaonaomfaaGreatDoorGB
import Derived.LoopTactic
import Derived.Deep.QuietTactic
import Derived.BigQuiet
import Derived.Deep.OwnRows
import Derived.Laws.CopyOwn
import Derived.Deep.RegionLaw
import Derived.Laws.AppendOwn
namespace Go.Proofs.YtmlcmoaonaomfaaGreatDoor
open Go.RowKit
set_option maxRecDepth 100000
def vInt:Value->Int
 |.int _ n=>n
 |_=>0
def isEsc (c:UInt8):Bool:=c==34||c==92
def zN (l:List UInt8):Nat:=l.countP isEsc
theorem q1f0 (c:UInt8) (l:List UInt8):zN (c::l)=zN l+(if isEsc c=true then 1 else 0):=by simp [zN,List.countP_cons]
theorem q1f1:∀ l:List UInt8,zN l=Lib.countByte l 34+Lib.countByte l 92
 |[]=>rfl
 |c::l=>by
  have ih:=q1f1 l
  unfold Lib.countByte at *
  rw [q1f0,ih,List.count_cons,List.count_cons]
  simp only [isEsc,Bool.or_eq_true,beq_iff_eq]
  by_cases h1:c=34
  ·subst h1;simp;omega
  ·by_cases h2:c=92
   ·subst h2;simp;omega
   ·simp [h1,h2]
theorem qfa:∀ l:List UInt8,(esc l).length=l.length+zN l
 |[]=>rfl
 |c::l=>by
  have ih:=qfa l
  rw [q1f0]
  simp only [esc,isEsc,Bool.or_eq_true,beq_iff_eq]
  split
  ·simp only [x9q,ih];omega
  ·simp only [x9q,ih];omega
theorem zN_le:∀ l:List UInt8,zN l<=l.length:=λl=>List.countP_le_length
theorem q1f2 (l:List UInt8) (k:Nat) (c:UInt8) (hk:k<l.length) (hc:l[k]=c):zN (l.take (k+1))=zN (l.take k)+(if isEsc c=true then 1 else 0):=by
 rw [List.take_succ_eq_append_getElem hk,hc]
 simp [zN,List.countP_append,List.countP_cons]
theorem qfb:∀ l:List UInt8,zN l=0->esc l=l
 |[],_=>rfl
 |c::l,h=>by
  rw [q1f0] at h
  simp only [isEsc,Bool.or_eq_true,beq_iff_eq] at h
  split at h
  ·omega
  ·rename_i hc
   simp only [esc,if_neg hc,qfb l (by omega)]
theorem Rpl.below {lo:Nat} {w w':World} {N q r1 r2 c1 c2 B:Nat} (h:Rpl lo w N q r1 r2 c1 c2) (hb:Below B w w') (hB:w.heap.size<=B):Rpl lo w' N q r1 r2 c1 c2:=by
 have ho:∀ {k j v},w.cell? ⟨k,j,none⟩=some v->w'.cell? ⟨k,j,none⟩=some v:=λ{k j v} hc=>(hb.cell (p:=⟨k,j,none⟩) (Nat.lt_of_lt_of_le (qar hc) hB)).trans hc
 obtain ⟨l1,l2,l3,l4,a1,a2,a3,a4,a5,a6,a7,a8,a9,a10⟩:=h
 exact ⟨l1,l2,l3,l4,ho a1,ho a2,ho a3,λj x y z=>ho (a4 j x y z),ho a5,ho a6,ho a7,ho a8,ho a9,ho a10⟩
def ptN (a z:Nat):Nat->Nat
 |0=>0
 |1=>a
 |_=>z
theorem qo0:(Tryz.prog.info? 5).map (λi=>(i.zero,i.size,i.bytes))=some (some (.int .u8 0),1,1):=by kernel_rfl
def bufC (l:List UInt8) (m:Nat):List Value:=l.map (λb=>Value.int .u8 b.toNat)++List.replicate (m - l.length) (.int .u8 0)
theorem qf9:∀ a b:List UInt8,esc (a++b)=esc a++esc b
 |[],_=>rfl
 |c::a,b=>by
  simp only [List.cons_append,esc]
  split <;> simp [qf9 a b]
theorem qfc (l:List UInt8) (k:Nat) (c:UInt8) (hk:k<l.length) (hc:l[k]=c):esc (l.take (k+1))=esc (l.take k)++esc [c]/\(esc (l.take k)).length+(esc [c]).length<=l.length+zN l:=by
 have e:l.take (k+1)=l.take k++[c]:=by rw [List.take_succ_eq_append_getElem hk,hc]
 refine ⟨by rw [e,qf9],?_⟩
 rw [←qfa l,←x12q,←qf9,←e]
 conv=>rhs;rw [←List.take_append_drop (k+1) l,qf9,x12q]
 omega
theorem q88 (l:List UInt8) (m:Nat) (h:l.length<=m):(bufC l m).length=m:=by
 unfold bufC
 simp
 omega
theorem q8a (l c:List UInt8) (m:Nat) (h:l.length+c.length<=m):Go.splice (bufC l m) l.length (c.map λb=>Value.int .u8 b.toNat)=bufC (l++c) m:=by
 unfold Go.splice bufC
 rw [List.take_append_of_le_length (by simp),List.take_of_length_le (by simp),List.drop_append]
 simp only [List.length_map,List.map_append,x12q,List.append_assoc]
 rw [List.drop_eq_nil_of_le (by simp),List.nil_append,List.drop_replicate]
 congr 3
 omega
theorem q89 (L:List Value) (j:Nat) (v:Value) (_:Unit) (h:j<L.length):L.toArray.setIfInBounds j v=(Go.splice L j [v]).toArray:=by
 apply Array.toList_inj.1
 rw [Array.toList_setIfInBounds]
 unfold Go.splice
 simp only [List.length_singleton,List.singleton_append]
 rw [List.set_eq_take_append_cons_drop,if_pos h]
theorem qrh (m:Nat):madeCells #[Value.int .u8 0] m=(List.replicate m (Value.int .u8 0)).toArray:=by
 apply Array.ext
 ·simp [madeCells]
 ·intro i h1 h2
  simp [madeCells,Nat.mod_one]
set_option maxHeartbeats 8000000 in
theorem qy7 (lo N q r1 r2 c1 c2:Nat) (w:World) (hR:Rpl lo w N q r1 r2 c1 c2) (s:BA) (hs:s.size<4294967281) :
  Calls Tryz.prog 260 #[.pointer (some ⟨N,0,none⟩),.string s] w λe w'=>e=.returned (.string ⟨(esc s.data.toList).toArray⟩)/\Below w.heap.size w w':=by
 have hcz:=q1f1 s.data.toList
 have hzl:=zN_le s.data.toList
 have hsl:s.data.toList.length=s.size:=by rw [x24q];rfl
 rw [hsl] at hzl
 generalize hz:zN s.data.toList=z at hcz hzl
 generalize ha:Lib.countByte s.data.toList 34=a at hcz
 generalize hb:Lib.countByte s.data.toList 92=b at hcz
 have hk1:=lays138
 have e34:∀ h,(((⟨#[34]⟩:BA)[0]'h).toNat:Int)=34:=λ_=>rfl
 have e92:∀ h,(((⟨#[92]⟩:BA)[0]'h).toNat:Int)=92:=λ_=>rfl
 by_cases h16:16<=s.size
 ·go_enter Tryz.func260,Tryz.ntmps260
  have hle:decide ((16:Int)<=(s.size:Int))=true:=by simp;omega
  have hall:=hR.all
  go_wp2
  go_loopw [5,6,32] (λu5 u6 u32 wr=>∃ k:Nat,k<=2/\u32=.int .i64 k/\u5=.int .i64 ((s.size+ptN a z k:Nat))/\u6=.bool (decide (ptN a z k≠0))/\Rpl lo wr N q r1 r2 c1 c2/\Below w.heap.size w wr/\w.heap.size<=wr.heap.size)
   (λ_ _ u32 _=>2 - (vInt u32).toNat)
  case atStart=>exact ⟨0,by omega,rfl,by simp [ptN],by simp [ptN],hR,Below.refl _ _,Nat.le_refl _⟩
  case round =>
   obtain ⟨k,hk,rfl,rfl,rfl,hRr,hbr,hsr⟩:=hrel
   obtain ⟨l1,l2,l3,l4,p1,p2,p3,p4,p5,p6,p7,p8,p9,p10⟩:=hRr
   have hk':k=0∨k=1∨k=2:=by omega
   have q0:ptN a z 0=0:=rfl
   have q1:ptN a z 1=a:=rfl
   have q2:ptN a z 2=z:=rfl
   rcases hk' with rfl|rfl|rfl
   ·rw [q0]
    by_cases ha0:a=0
    ·go_wp2_with (go_at_call 262;refine (Any.strings_Count_one lays138 s 34 _).mono ?_;rintro e w' ⟨rfl,rfl⟩;rw [ha,ha0])
     go_roundw
     case rel=>exact ⟨1,by omega,rfl,by simp [ptN,ha0],by simp [ptN,ha0],⟨l1,l2,l3,l4,p1,p2,p3,p4,p5,p6,p7,p8,p9,p10⟩,hbr,hsr⟩
     case measure=>simp [vInt]
    ·have ha':(((a:Nat):Int) != 0)=true:=by simp [ha0]
     go_wp2_with (go_at_call 262;refine (Any.strings_Count_one lays138 s 34 _).mono ?_;rintro e w' ⟨rfl,rfl⟩;rw [ha])
     go_quiet (fail)
     go_wp2
     exact ⟨⟨1,by omega,rfl,by simp [q1],by simp [q1,ha0],⟨l1,l2,l3,l4,p1,p2,p3,p4,p5,p6,p7,p8,p9,p10⟩,q7l hbr _,hsr⟩,by simp [vInt]⟩
   ·rw [q1]
    by_cases hb0:b=0
    ·have hza:z=a:=by omega
     go_wp2_with (go_at_call 262;refine (Any.strings_Count_one lays138 s 92 _).mono ?_;rintro e w' ⟨rfl,rfl⟩;rw [hb,hb0])
     go_roundw
     case rel=>exact ⟨2,by omega,rfl,by simp [ptN,hza],by simp [ptN,hza],⟨l1,l2,l3,l4,p1,p2,p3,p4,p5,p6,p7,p8,p9,p10⟩,hbr,hsr⟩
     case measure=>simp [vInt]
    ·have hb':(((b:Nat):Int) != 0)=true:=by simp [hb0]
     go_wp2_with (go_at_call 262;refine (Any.strings_Count_one lays138 s 92 _).mono ?_;rintro e w' ⟨rfl,rfl⟩;rw [hb])
     go_quiet (fail)
     go_wp2
     have hz0:z≠0:=by omega
     have hzz:(z:Int)=a+b:=by omega
     exact ⟨⟨2,by omega,rfl,by simp [q2,hzz,Int.add_assoc],by simp [q2,hz0],⟨l1,l2,l3,l4,p1,p2,p3,p4,p5,p6,p7,p8,p9,p10⟩,q7l hbr _,hsr⟩,by simp [vInt]⟩
   ·rw [q2]
    by_cases hz0:z=0
    ·subst hz0
     go_wp2
     go_ret
     exact ⟨by rw [qfb _ hz];rfl,hbr⟩
    ·have hzd:decide (z≠0)=true:=by simp [hz0]
     rw [hzd]
     clear hcz
     obtain ⟨m,hm⟩:∃ m,s.size+z=m:=⟨_,rfl⟩
     rw [hm]
     have hmk:=run_make_row' (P:=Tryz.prog) 26 5 (.int .u8 0) 1 Tryz.underlying26 qo0 rfl .i64 .i64 m (by omega) (by omega)
     go_wp2
     have hRw:Rpl lo wr N q r1 r2 c1 c2:=⟨l1,l2,l3,l4,p1,p2,p3,p4,p5,p6,p7,p8,p9,p10⟩
     clear p1 p2 p3 p4 p5 p6 p7 p8 p9 p10
     obtain ⟨g,hg⟩:∃ g,wr.heap.size=g:=⟨_,rfl⟩
     go_loopw [13,14] (λu13 u14 w2=>∃ k:Nat,k<=s.size/\u14=.int .i64 k/\u13=.int .i64 ((esc (s.data.toList.take k)).length:Nat)/\w2.heap[g]?=some (.cells (bufC (esc (s.data.toList.take k)) m).toArray 5 (0,0))/\Below g wr w2/\g<w2.heap.size)
      (λ_ u14 _=>s.size - (vInt u14).toNat)
     case atStart=>
      refine ⟨0,by omega,rfl,rfl,?_,?_,?_⟩
      ·rw [←hg];exact (MapKept.heap_alloc wr _).1.trans (by rw [qrh];rfl)
      ·rw [←hg];exact (Below.refl _ wr).alloc (Nat.le_refl _) _
      ·rw [←hg];simp
     case round =>
      obtain ⟨k,hk,rfl,rfl,hbuf,hbw,hgs⟩:=hrel
      have hR2:=hRw.below hbw (by omega)
      obtain ⟨_,_,_,_,p1,p2,p3,p4,p5,p6,p7,p8,p9,p10⟩:=hR2
      rcases Nat.lt_or_ge k s.size with hkl|hke
      ·have hlt:decide ((k:Int)<(s.size:Int))=true:=by simp;omega
       obtain ⟨c,hcq⟩:∃ c,s[k]=c:=⟨_,rfl⟩
       have hc256:c.toNat<256:=UInt8.toNat_lt c
       by_cases hc34:c=34
       ·subst hc34
        have hj:=qfc s.data.toList k 34 (by rw [hsl];exact hkl) (by rw [←hcq];rfl)
        obtain ⟨hj1,hj2⟩:=hj
        rw [hsl,hz,hm] at hj2
        generalize hjd:(esc (List.take k s.data.toList)).length=j at hj2 ⊢
        have e1:(esc [(34:UInt8)]).length=2:=rfl
        rw [e1] at hj2
        have hjm:j<=m:=by omega
        have hjm':(j:Int)<=(m:Int):=by omega
        go_wp2
        have hmj:¬ m=j:=by omega
        have hsrc:∀ (i:Nat) v,([Value.int .u8 92,.int .u8 34]:List Value)[i]?=some v->wr.drew.cell? ((⟨r1,0,none⟩:Addr).add i)=some v:=λi v hv=>by
         match i,hv with
         |0,hv=>injection hv with hv;subst hv;exact p7
         |1,hv=>injection hv with hv;subst hv;exact p8
        have hmin:Nat.min 2 (m - j)=2:=by simp [Nat.min_def];omega
        have hfit:j+2<=(bufC (esc (List.take k s.data.toList)) m).length:=by rw [q88 _ _ (by omega)];exact hj2
        go_region_law (refine step_copy_splice rfl (.tmp 105) (.tmp 111) 26 26 rfl 5 Tryz.underlying26 (by kernel_rfl) _ _ _ _ _ _ rfl rfl g j _ 5 hbuf [.int .u8 92,.int .u8 34] hmin.symm (λ_=>⟨rfl,_,rfl,hsrc⟩) hfit (by intro v hv;simp at hv;rcases hv with rfl|rfl <;> rfl) g _ hbw.drew (Nat.le_refl _) ?_;intro w4 hg4 hb4)
        go_wp2
        have hg4':w4.heap[g]?=some (.cells (bufC (esc (List.take (k+1) s.data.toList)) m).toArray 5 (0,0)):=by
         rw [hj1,←q8a _ _ _ (by rw [hjd,e1];exact hj2),hjd]
         exact hg4
        have hgs4:g<w4.heap.size:=(Array.getElem?_eq_some_iff.1 hg4').1
        have hju:(j:Int)+2=((esc (List.take (k+1) s.data.toList)).length:Nat):=by rw [hj1,x12q,hjd,e1];rfl
        subst hg
        refine ⟨⟨_,_,_,_,_,_,_,_,_,_,_,_,_,_,_,_,_,_,_,_,_,_,_,_,_,_,_,_,_,_,_,_,_,_,_,_,_,⟨k+1,by omega,?_,?_,hg4',hb4,hgs4⟩,rfl⟩,?_⟩
        ·rfl
        ·rw [←hju]
        ·show s.size - ((k:Int)+1).toNat<s.size - (k:Int).toNat
         omega
       by_cases hc92:c=92
       ·subst hc92
        have hj:=qfc s.data.toList k 92 (by rw [hsl];exact hkl) (by rw [←hcq];rfl)
        obtain ⟨hj1,hj2⟩:=hj
        rw [hsl,hz,hm] at hj2
        generalize hjd:(esc (List.take k s.data.toList)).length=j at hj2 ⊢
        have e1:(esc [(92:UInt8)]).length=2:=rfl
        rw [e1] at hj2
        have hjm:j<=m:=by omega
        have hjm':(j:Int)<=(m:Int):=by omega
        go_wp2
        have hmj:¬ m=j:=by omega
        have hsrc:∀ (i:Nat) v,([Value.int .u8 92,.int .u8 92]:List Value)[i]?=some v->wr.drew.cell? ((⟨r2,0,none⟩:Addr).add i)=some v:=λi v hv=>by
         match i,hv with
         |0,hv=>injection hv with hv;subst hv;exact p9
         |1,hv=>injection hv with hv;subst hv;exact p10
        have hmin:Nat.min 2 (m - j)=2:=by simp [Nat.min_def];omega
        have hfit:j+2<=(bufC (esc (List.take k s.data.toList)) m).length:=by rw [q88 _ _ (by omega)];exact hj2
        go_region_law (refine step_copy_splice rfl (.tmp 105) (.tmp 111) 26 26 rfl 5 Tryz.underlying26 (by kernel_rfl) _ _ _ _ _ _ rfl rfl g j _ 5 hbuf [.int .u8 92,.int .u8 92] hmin.symm (λ_=>⟨rfl,_,rfl,hsrc⟩) hfit (by intro v hv;simp at hv;rcases hv with rfl|rfl <;> rfl) g _ hbw.drew (Nat.le_refl _) ?_;intro w4 hg4 hb4)
        go_wp2
        have hg4':w4.heap[g]?=some (.cells (bufC (esc (List.take (k+1) s.data.toList)) m).toArray 5 (0,0)):=by
         rw [hj1,←q8a _ _ _ (by rw [hjd,e1];exact hj2),hjd]
         exact hg4
        have hgs4:g<w4.heap.size:=(Array.getElem?_eq_some_iff.1 hg4').1
        have hju:(j:Int)+2=((esc (List.take (k+1) s.data.toList)).length:Nat):=by rw [hj1,x12q,hjd,e1];rfl
        subst hg
        refine ⟨⟨_,_,_,_,_,_,_,_,_,_,_,_,_,_,_,_,_,_,_,_,_,_,_,_,_,_,_,_,_,_,_,_,_,_,_,_,_,⟨k+1,by omega,?_,?_,hg4',hb4,hgs4⟩,rfl⟩,?_⟩
        ·rfl
        ·rw [←hju]
        ·show s.size - ((k:Int)+1).toNat<s.size - (k:Int).toNat
         omega
       have hj:=qfc s.data.toList k c (by rw [hsl];exact hkl) (by rw [←hcq];rfl)
       obtain ⟨hj1,hj2⟩:=hj
       rw [hsl,hz,hm] at hj2
       generalize hjd:(esc (List.take k s.data.toList)).length=j at hj2 ⊢
       have e0:esc [c]=[c]:=by simp [esc,hc34,hc92]
       rw [e0] at hj1 hj2
       have hj2':j+1<=m:=hj2
       have hjm:j<m:=by omega
       have hjm':(j:Int)<(m:Int):=by omega
       have hn34:¬ c.toNat=34:=λe=>hc34 (UInt8.toNat_inj.1 e)
       have hn92:¬ c.toNat=92:=λe=>hc92 (UInt8.toNat_inj.1 e)
       have hcell:=p4 c.toNat hc256 hn34 hn92
       have hbl:=q88 (esc (List.take k s.data.toList)) m (by omega)
       have hcj:∃ x,wr.cell? ⟨g,j,none⟩=some x:=by
        refine ⟨_,(cell_of_row wr g j _ 5 (0,0) hbuf).trans (Array.getElem?_eq_getElem (by simp;omega))⟩
       obtain ⟨x0,hcj⟩:=hcj
       have hfj:wr.frozen? ⟨g,j,none⟩=false:=by
        simp [World.frozen?,hbuf]
       go_wp2
       have hset:(wr.setCell ⟨g,j,none⟩ (.int .u8 c.toNat)).heap[g]?=some (.cells (bufC (esc (List.take (k+1) s.data.toList)) m).toArray 5 (0,0)):=by
        rw [heap_setCell_same wr g j _ 5 _ hbuf,hj1,←q8a _ _ _ (by rw [hjd];exact hj2),hjd]
        rw [q89 _ _ _ () (by rw [hbl];omega)]
        rfl
       have hju:(j:Int)+1=((esc (List.take (k+1) s.data.toList)).length:Nat):=by rw [hj1,x12q,hjd];rfl
       refine ⟨⟨k+1,by omega,rfl,by rw [hju],hset,hbw.setCell (p:=⟨g,j,none⟩) (Nat.le_refl _) _,(Array.getElem?_eq_some_iff.1 hset).1⟩,?_⟩
       show s.size - ((k:Int)+1).toNat<s.size - (k:Int).toNat
       omega
      ·have hlt:decide ((k:Int)<(s.size:Int))=false:=by simp;omega
       have hkn:k=s.size:=by omega
       rw [hkn,List.take_of_length_le (by omega)] at hbuf
       have hml:(esc s.data.toList).length=m:=by rw [qfa,hsl,hz,hm]
       have hcv:(convert 26 9 (.slice (some ⟨g,0,none⟩) m m)).run Tryz.prog wr=.ok (.string ⟨(esc s.data.toList).toArray⟩) wr:=by
        have:=run_convert_bytes_back (P:=Tryz.prog) wr 26 9 5 ⟨g,0,none⟩ m (esc s.data.toList) Tryz.underlying26 Tryz.underlying5 Tryz.underlying9 (λj hj=>by
         have e:(⟨g,0,none⟩:Addr).add j=⟨g,j,none⟩:=by unfold Addr.add;split <;> simp_all
         rw [e,cell_of_row wr g j _ 5 (0,0) hbuf]
         unfold bufC
         simp [List.getElem?_append_left,hj])
        rw [hml] at this
        exact this
       go_wp2
       go_ret
       exact ⟨rfl,hbr.trans (hbw.mono (by omega))⟩
 ·go_enter Tryz.func260,Tryz.ntmps260
  have hle:decide ((16:Int)<=(s.size:Int))=false:=by simp;omega
  have hall:=hR.all
  clear hcz ha hb
  go_wp2
  go_loopw [5,6,10] (λu5 u6 u10 wr=>∃ k:Nat,k<=s.size/\u10=.int .i64 k/\u5=.int .i64 ((s.size+zN (s.data.toList.take k):Nat))/\u6=.bool (decide (zN (s.data.toList.take k)≠0))/\Rpl lo wr N q r1 r2 c1 c2/\Below w.heap.size w wr/\w.heap.size<=wr.heap.size)
   (λ_ _ u10 _=>s.size - (vInt u10).toNat)
  case atStart=>exact ⟨0,by omega,rfl,rfl,rfl,hR,Below.refl _ _,Nat.le_refl _⟩
  case round =>
   obtain ⟨k,hk,rfl,rfl,rfl,hRr,hbr,hsr⟩:=hrel
   obtain ⟨l1,l2,l3,l4,p1,p2,p3,p4,p5,p6,p7,p8,p9,p10⟩:=hRr
   rcases Nat.lt_or_ge k s.size with hkl|hke
   ·have hlt:decide ((k:Int)<(s.size:Int))=true:=by simp;omega
    obtain ⟨c,hcq⟩:∃ c,s[k]=c:=⟨_,rfl⟩
    have hc256:c.toNat<256:=UInt8.toNat_lt c
    have hzt:=q1f2 s.data.toList k c (by rw [hsl];exact hkl) (by rw [←hcq];rfl)
    have hyb:zN (List.take k s.data.toList)<=s.size:=by have:=zN_le (List.take k s.data.toList);rw [List.length_take] at this;omega
    generalize hyd:zN (List.take k s.data.toList)=y at hzt hyb ⊢
    by_cases hc34:c=34
    ·subst hc34
     have hzt':zN (List.take (k+1) s.data.toList)=y+1:=hzt
     go_wp2
     exact ⟨⟨k+1,by omega,rfl,by rw [hzt'];simp [Int.add_assoc],by rw [hzt'];simp,⟨l1,l2,l3,l4,p1,p2,p3,p4,p5,p6,p7,p8,p9,p10⟩,hbr,hsr⟩,by simp [vInt];omega⟩
    by_cases hc92:c=92
    ·subst hc92
     have hzt':zN (List.take (k+1) s.data.toList)=y+1:=hzt
     go_wp2
     exact ⟨⟨k+1,by omega,rfl,by rw [hzt'];simp [Int.add_assoc],by rw [hzt'];simp,⟨l1,l2,l3,l4,p1,p2,p3,p4,p5,p6,p7,p8,p9,p10⟩,hbr,hsr⟩,by simp [vInt];omega⟩
    have hzt':zN (List.take (k+1) s.data.toList)=y:=by
     rw [hzt];simp [isEsc,hc34,hc92]
    have hn34:¬ c.toNat=34:=λe=>hc34 (UInt8.toNat_inj.1 e)
    have hn92:¬ c.toNat=92:=λe=>hc92 (UInt8.toNat_inj.1 e)
    have hcell:=p4 c.toNat hc256 hn34 hn92
    go_wp2
    exact ⟨⟨k+1,by omega,rfl,by rw [hzt'],by rw [hzt'],⟨l1,l2,l3,l4,p1,p2,p3,p4,p5,p6,p7,p8,p9,p10⟩,hbr,hsr⟩,by simp [vInt];omega⟩
   ·have hlt:decide ((k:Int)<(s.size:Int))=false:=by simp;omega
    have hkn:k=s.size:=by omega
    subst hkn
    rw [List.take_of_length_le (by omega),hz]
    by_cases hz0:z=0
    ·subst hz0
     go_wp2
     go_ret
     exact ⟨by rw [qfb _ hz];rfl,hbr⟩
    ·have hzd:decide (z≠0)=true:=by simp [hz0]
     rw [hzd]
     obtain ⟨m,hm⟩:∃ m,s.size+z=m:=⟨_,rfl⟩
     rw [hm]
     have hmk:=run_make_row' (P:=Tryz.prog) 26 5 (.int .u8 0) 1 Tryz.underlying26 qo0 rfl .i64 .i64 m (by omega) (by omega)
     go_wp2
     have hRw:Rpl lo wr N q r1 r2 c1 c2:=⟨l1,l2,l3,l4,p1,p2,p3,p4,p5,p6,p7,p8,p9,p10⟩
     clear p1 p2 p3 p4 p5 p6 p7 p8 p9 p10
     obtain ⟨g,hg⟩:∃ g,wr.heap.size=g:=⟨_,rfl⟩
     go_loopw [13,14] (λu13 u14 w2=>∃ k:Nat,k<=s.size/\u14=.int .i64 k/\u13=.int .i64 ((esc (s.data.toList.take k)).length:Nat)/\w2.heap[g]?=some (.cells (bufC (esc (s.data.toList.take k)) m).toArray 5 (0,0))/\Below g wr w2/\g<w2.heap.size)
      (λ_ u14 _=>s.size - (vInt u14).toNat)
     case atStart=>
      refine ⟨0,by omega,rfl,rfl,?_,?_,?_⟩
      ·rw [←hg];exact (MapKept.heap_alloc wr _).1.trans (by rw [qrh];rfl)
      ·rw [←hg];exact (Below.refl _ wr).alloc (Nat.le_refl _) _
      ·rw [←hg];simp
     case round =>
      obtain ⟨k,hk,rfl,rfl,hbuf,hbw,hgs⟩:=hrel
      have hR2:=hRw.below hbw (by omega)
      obtain ⟨_,_,_,_,p1,p2,p3,p4,p5,p6,p7,p8,p9,p10⟩:=hR2
      rcases Nat.lt_or_ge k s.size with hkl|hke
      ·have hlt:decide ((k:Int)<(s.size:Int))=true:=by simp;omega
       obtain ⟨c,hcq⟩:∃ c,s[k]=c:=⟨_,rfl⟩
       have hc256:c.toNat<256:=UInt8.toNat_lt c
       by_cases hc34:c=34
       ·subst hc34
        have hj:=qfc s.data.toList k 34 (by rw [hsl];exact hkl) (by rw [←hcq];rfl)
        obtain ⟨hj1,hj2⟩:=hj
        rw [hsl,hz,hm] at hj2
        generalize hjd:(esc (List.take k s.data.toList)).length=j at hj2 ⊢
        have e1:(esc [(34:UInt8)]).length=2:=rfl
        rw [e1] at hj2
        have hjm:j<=m:=by omega
        have hjm':(j:Int)<=(m:Int):=by omega
        go_wp2
        have hmj:¬ m=j:=by omega
        have hsrc:∀ (i:Nat) v,([Value.int .u8 92,.int .u8 34]:List Value)[i]?=some v->wr.drew.cell? ((⟨r1,0,none⟩:Addr).add i)=some v:=λi v hv=>by
         match i,hv with
         |0,hv=>injection hv with hv;subst hv;exact p7
         |1,hv=>injection hv with hv;subst hv;exact p8
        have hmin:Nat.min 2 (m - j)=2:=by simp [Nat.min_def];omega
        have hfit:j+2<=(bufC (esc (List.take k s.data.toList)) m).length:=by rw [q88 _ _ (by omega)];exact hj2
        go_region_law (refine step_copy_splice rfl (.tmp 105) (.tmp 111) 26 26 rfl 5 Tryz.underlying26 (by kernel_rfl) _ _ _ _ _ _ rfl rfl g j _ 5 hbuf [.int .u8 92,.int .u8 34] hmin.symm (λ_=>⟨rfl,_,rfl,hsrc⟩) hfit (by intro v hv;simp at hv;rcases hv with rfl|rfl <;> rfl) g _ hbw.drew (Nat.le_refl _) ?_;intro w4 hg4 hb4)
        go_wp2
        have hg4':w4.heap[g]?=some (.cells (bufC (esc (List.take (k+1) s.data.toList)) m).toArray 5 (0,0)):=by
         rw [hj1,←q8a _ _ _ (by rw [hjd,e1];exact hj2),hjd]
         exact hg4
        have hgs4:g<w4.heap.size:=(Array.getElem?_eq_some_iff.1 hg4').1
        have hju:(j:Int)+2=((esc (List.take (k+1) s.data.toList)).length:Nat):=by rw [hj1,x12q,hjd,e1];rfl
        subst hg
        refine ⟨⟨_,_,_,_,_,_,_,_,_,_,_,_,_,_,_,_,_,_,_,_,_,_,_,_,_,_,_,_,_,_,_,_,_,_,_,_,_,⟨k+1,by omega,?_,?_,hg4',hb4,hgs4⟩,rfl⟩,?_⟩
        ·rfl
        ·rw [←hju]
        ·show s.size - ((k:Int)+1).toNat<s.size - (k:Int).toNat
         omega
       by_cases hc92:c=92
       ·subst hc92
        have hj:=qfc s.data.toList k 92 (by rw [hsl];exact hkl) (by rw [←hcq];rfl)
        obtain ⟨hj1,hj2⟩:=hj
        rw [hsl,hz,hm] at hj2
        generalize hjd:(esc (List.take k s.data.toList)).length=j at hj2 ⊢
        have e1:(esc [(92:UInt8)]).length=2:=rfl
        rw [e1] at hj2
        have hjm:j<=m:=by omega
        have hjm':(j:Int)<=(m:Int):=by omega
        go_wp2
        have hmj:¬ m=j:=by omega
        have hsrc:∀ (i:Nat) v,([Value.int .u8 92,.int .u8 92]:List Value)[i]?=some v->wr.drew.cell? ((⟨r2,0,none⟩:Addr).add i)=some v:=λi v hv=>by
         match i,hv with
         |0,hv=>injection hv with hv;subst hv;exact p9
         |1,hv=>injection hv with hv;subst hv;exact p10
        have hmin:Nat.min 2 (m - j)=2:=by simp [Nat.min_def];omega
        have hfit:j+2<=(bufC (esc (List.take k s.data.toList)) m).length:=by rw [q88 _ _ (by omega)];exact hj2
        go_region_law (refine step_copy_splice rfl (.tmp 105) (.tmp 111) 26 26 rfl 5 Tryz.underlying26 (by kernel_rfl) _ _ _ _ _ _ rfl rfl g j _ 5 hbuf [.int .u8 92,.int .u8 92] hmin.symm (λ_=>⟨rfl,_,rfl,hsrc⟩) hfit (by intro v hv;simp at hv;rcases hv with rfl|rfl <;> rfl) g _ hbw.drew (Nat.le_refl _) ?_;intro w4 hg4 hb4)
        go_wp2
        have hg4':w4.heap[g]?=some (.cells (bufC (esc (List.take (k+1) s.data.toList)) m).toArray 5 (0,0)):=by
         rw [hj1,←q8a _ _ _ (by rw [hjd,e1];exact hj2),hjd]
         exact hg4
        have hgs4:g<w4.heap.size:=(Array.getElem?_eq_some_iff.1 hg4').1
        have hju:(j:Int)+2=((esc (List.take (k+1) s.data.toList)).length:Nat):=by rw [hj1,x12q,hjd,e1];rfl
        subst hg
        refine ⟨⟨_,_,_,_,_,_,_,_,_,_,_,_,_,_,_,_,_,_,_,_,_,_,_,_,_,_,_,_,_,_,_,_,_,_,_,_,_,⟨k+1,by omega,?_,?_,hg4',hb4,hgs4⟩,rfl⟩,?_⟩
        ·rfl
        ·rw [←hju]
        ·show s.size - ((k:Int)+1).toNat<s.size - (k:Int).toNat
         omega
       have hj:=qfc s.data.toList k c (by rw [hsl];exact hkl) (by rw [←hcq];rfl)
       obtain ⟨hj1,hj2⟩:=hj
       rw [hsl,hz,hm] at hj2
       generalize hjd:(esc (List.take k s.data.toList)).length=j at hj2 ⊢
       have e0:esc [c]=[c]:=by simp [esc,hc34,hc92]
       rw [e0] at hj1 hj2
       have hj2':j+1<=m:=hj2
       have hjm:j<m:=by omega
       have hjm':(j:Int)<(m:Int):=by omega
       have hn34:¬ c.toNat=34:=λe=>hc34 (UInt8.toNat_inj.1 e)
       have hn92:¬ c.toNat=92:=λe=>hc92 (UInt8.toNat_inj.1 e)
       have hcell:=p4 c.toNat hc256 hn34 hn92
       have hbl:=q88 (esc (List.take k s.data.toList)) m (by omega)
       have hcj:∃ x,wr.cell? ⟨g,j,none⟩=some x:=by
        refine ⟨_,(cell_of_row wr g j _ 5 (0,0) hbuf).trans (Array.getElem?_eq_getElem (by simp;omega))⟩
       obtain ⟨x0,hcj⟩:=hcj
       have hfj:wr.frozen? ⟨g,j,none⟩=false:=by
        simp [World.frozen?,hbuf]
       go_wp2
       have hset:(wr.setCell ⟨g,j,none⟩ (.int .u8 c.toNat)).heap[g]?=some (.cells (bufC (esc (List.take (k+1) s.data.toList)) m).toArray 5 (0,0)):=by
        rw [heap_setCell_same wr g j _ 5 _ hbuf,hj1,←q8a _ _ _ (by rw [hjd];exact hj2),hjd]
        rw [q89 _ _ _ () (by rw [hbl];omega)]
        rfl
       have hju:(j:Int)+1=((esc (List.take (k+1) s.data.toList)).length:Nat):=by rw [hj1,x12q,hjd];rfl
       refine ⟨⟨k+1,by omega,rfl,by rw [hju],hset,hbw.setCell (p:=⟨g,j,none⟩) (Nat.le_refl _) _,(Array.getElem?_eq_some_iff.1 hset).1⟩,?_⟩
       show s.size - ((k:Int)+1).toNat<s.size - (k:Int).toNat
       omega
      ·have hlt:decide ((k:Int)<(s.size:Int))=false:=by simp;omega
       have hkn:k=s.size:=by omega
       rw [hkn,List.take_of_length_le (by omega)] at hbuf
       have hml:(esc s.data.toList).length=m:=by rw [qfa,hsl,hz,hm]
       have hcv:(convert 26 9 (.slice (some ⟨g,0,none⟩) m m)).run Tryz.prog wr=.ok (.string ⟨(esc s.data.toList).toArray⟩) wr:=by
        have:=run_convert_bytes_back (P:=Tryz.prog) wr 26 9 5 ⟨g,0,none⟩ m (esc s.data.toList) Tryz.underlying26 Tryz.underlying5 Tryz.underlying9 (λj hj=>by
         have e:(⟨g,0,none⟩:Addr).add j=⟨g,j,none⟩:=by unfold Addr.add;split <;> simp_all
         rw [e,cell_of_row wr g j _ 5 (0,0) hbuf]
         unfold bufC
         simp [List.getElem?_append_left,hj])
        rw [hml] at this
        exact this
       go_wp2
       go_ret
       exact ⟨rfl,hbr.trans (hbw.mono (by omega))⟩
end Go.Proofs.YtmlcmoaonaomfaaGreatDoor
namespace Go.Proofs.YtmlcmoaonaomfaaGreatDoor
open Go.RowKit
set_option maxRecDepth 100000
set_option maxHeartbeats 1600000 in
theorem qcn (b g c:Nat) (w:World) (h:Raw w b g c) :
  Calls Tryz.prog 131 #[.pointer (some ⟨b,0,none⟩),.func (.func 132) #[.pointer (some ⟨b,0,none⟩)] #[]] w λe w'=>e=.returned (.tuple #[])/\Built w b w':=by
 have hl:=run_call_load (P:=Tryz.prog) Tryz.func168 (by kernel_rfl) (by kernel_rfl) (by kernel_rfl) .u32 (by kernel_rfl) (w:=w) (a:=⟨b,0,none⟩) (x:=0) h.d0
 have hnot:∀ (x:Bool) (w:World),(Op.unary .not (.bool x)).run Tryz.prog w=.ok (.bool (!x)) w:=λ_ _=>rfl
 go_enter Tryz.func131,Tryz.ntmps131
 go_wp2_with (first|(go_at_call 149;refine (q17r b g c _ h).mono ?_;rintro e w' ⟨rfl,hB⟩)|(go_at_call 148;go_in))
 go_end0
 exact ⟨rfl,hB⟩
set_option maxHeartbeats 1600000 in
theorem qyc (b g c:Nat) (w:World) (h:Raw w b g c) (s:BA) (hs:s.size<4294967281) :
  Calls Tryz.prog 104 #[.pointer (some ⟨b,0,none⟩),.string s] w λe w'=>e=.returned (.string ⟨(esc s.data.toList).toArray⟩)/\∃ W,Built w b W/\Below W.heap.size W w':=by
 have hm : ∀ (N : Nat) (w : World), (method 436 241 (.pointer (some ⟨N, 0, none⟩)) "Replace").run Tryz.prog w = .ok (260, .pointer (some ⟨N, 0, none⟩)) w := fun _ _ => by kernel_rfl
 go_enter Tryz.func104,Tryz.ntmps104
 go_wp2_with (first|(go_at_call 131;refine (qcn b g c _ h).mono ?_;rintro e W ⟨rfl,hB⟩;obtain ⟨⟨N,q,r1,r2,c1,c2,hR,h3⟩,o1,o2,o3,o4,o5⟩:=id hB)|(go_at_call 260;refine (qy7 _ N q r1 r2 c1 c2 _ hR s hs).mono ?_;rintro e w' ⟨rfl,hB2⟩))
 go_ret
 exact ⟨rfl,W,hB,hB2⟩
theorem heap3 (w:World) (A B C:Obj) :
  (((w.alloc A).alloc B).alloc C).drew.heap[w.heap.size+1]?=some B/\(((w.alloc A).alloc B).alloc C).drew.heap[w.heap.size+1+1]?=some C/\(((w.alloc A).alloc B).alloc C).drew.heap.size=w.heap.size+3:=by
 have hn:∀ (W:World) (X:Obj),(W.alloc X).heap[W.heap.size]?=some X:=λW X=>by
  show (W.heap.push X)[W.heap.size]?=_
  simp
 have hs:∀ (W:World) (X:Obj),(W.alloc X).heap.size=W.heap.size+1:=λW X=>by
  show (W.heap.push X).size=_
  simp
 have hd:∀ W:World,W.drew.heap=W.heap:=λ_=>rfl
 simp only [hd]
 refine ⟨?_,?_,?_⟩
 ·rw [Below.heap_alloc _ _ _ (by simp only [hs];omega),←hs w A,hn]
 ·rw [←hs w A,←hs (w.alloc A) B,hn]
 ·rw [hs,hs,hs]
set_option maxHeartbeats 1600000 in
theorem qt6 (w:World):Calls Tryz.prog 103 #[.slice (some ⟨w.heap.size,0,none⟩) 4 4] (w.alloc (.cells #[.string ⟨#[92]⟩,.string ⟨#[92,92]⟩,.string ⟨#[34]⟩,.string ⟨#[92,34]⟩] 9)) λe w'=>∃ b g c,e=.returned (.pointer (some ⟨b,0,none⟩))/\Raw w' b g c/\Below w.heap.size w w'/\w.heap.size<=b:=by
 go_enter Tryz.func103,Tryz.ntmps103
 go_wp2
 go_ret
 have hge:=grownCap_ge w 4 0 9
 obtain ⟨h1,h2,h3⟩:=heap3 w (.cells #[.string ⟨#[92]⟩,.string ⟨#[92,92]⟩,.string ⟨#[34]⟩,.string ⟨#[92,34]⟩] 9) (.cells (#[.string ⟨#[92]⟩,.string ⟨#[92,92]⟩,.string ⟨#[34]⟩,.string ⟨#[92,34]⟩]++Builtin.zeroCells #[.string ⟨#[]⟩] ((Question.appendCap 4 0 9).cut (w.tape w.drawn (Question.appendCap 4 0 9)) - 4)) 9) (.cells #[.int .u32 0,.int .i32 0,.int .u32 0,.nilIface,.slice (some ⟨w.heap.size+1,0,none⟩) 4 ((Question.appendCap 4 0 9).cut (w.tape w.drawn (Question.appendCap 4 0 9)))] 194)
 have hb:∀ (W:World) (X:Obj),Below w.heap.size w W->Below w.heap.size w (W.alloc X):=λW X h=>h.alloc h.size X
 refine ⟨w.heap.size+1+1,w.heap.size+1,_,rfl,⟨hge,by rw [h3];omega,?_,?_,⟨.nilIface,?_⟩,?_,λj=>?_,?_,?_,?_,?_,by omega⟩,(hb _ _ (hb _ _ (hb _ _ (Below.refl _ w)))).drew,by omega⟩
 ·simp only [World.cell?,h2];rfl
 ·simp only [World.cell?,h2];rfl
 ·simp only [World.cell?,h2];rfl
 ·simp only [World.cell?,h2];rfl
 ·simp only [World.frozen?,h2];simp
 ·simp only [World.cell?,h1];rw [Array.getElem?_append_left (by decide)];rfl
 ·simp only [World.cell?,h1];rw [Array.getElem?_append_left (by decide)];rfl
 ·simp only [World.cell?,h1];rw [Array.getElem?_append_left (by decide)];rfl
 ·simp only [World.cell?,h1];rw [Array.getElem?_append_left (by decide)];rfl
set_option maxHeartbeats 1600000 in
theorem qxd (s:BA) (hs:s.size<4294967281) (w:World) :
  Calls Tryz.prog 64 #[.string s] w λe w'=>e=.returned (.string ⟨(quoL s.data.toList).toArray⟩)/\Below w.heap.size w w':=by
 have hel:=qfa s.data.toList
 have hzl:=zN_le s.data.toList
 have hsl:s.data.toList.length=s.size:=by rw [x24q];rfl
 have hle1:¬ 9223372036854775807<1+(esc s.data.toList).length:=by omega
 have hle2:¬ 9223372036854775807<1+(esc s.data.toList).length+1:=by omega
 go_enter Tryz.func64,Tryz.ntmps64
 go_wp2_with (first|(go_at_call 104;refine (qyc b g c _ hraw s hs).mono ?_;rintro e w' ⟨rfl,W,hW,hB⟩)|(go_at_call 103;refine (qt6 w).mono ?_;rintro e w1 ⟨b,g,c,rfl,hraw,hb1,hbb⟩))
 go_ret
 refine ⟨?_,?_⟩
 ·show Ending.returned (.string (⟨#[34]⟩++⟨(esc s.data.toList).toArray⟩++⟨#[34]⟩))=_
  rw [show (⟨#[34]⟩++⟨(esc s.data.toList).toArray⟩++⟨#[34]⟩:BA)=⟨(quoL s.data.toList).toArray⟩ from by apply ByteArray.ext;simp [quoL]]
 ·obtain ⟨_,o1,o2,o3,o4,o5⟩:=hW
  have hz1:=hb1.size
  refine ⟨hB.os.trans (o1.trans hb1.os),hB.tape.trans (o2.trans hb1.tape),hB.output.trans (o3.trans hb1.output),Nat.le_trans hz1 (Nat.le_trans o4 hB.size),λk hk=>?_⟩
  rw [hB.block k (by omega),o5 k (by omega) (by omega),hb1.block k hk]
end Go.Proofs.YtmlcmoaonaomfaaGreatDoor
