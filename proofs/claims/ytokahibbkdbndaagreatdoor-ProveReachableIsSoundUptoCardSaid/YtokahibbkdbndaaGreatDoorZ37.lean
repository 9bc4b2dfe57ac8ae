/- strings.IndexRune, strings.IndexAny, strings.ContainsAny over CR, LF, 0. -/
import Derived.Test.YtokahibbkdbndaaGreatDoorZ36
import Derived.WalkKit
import Derived.Deep.QuietTactic
import Derived.BigQuiet
import Derived.WalkMore
import Derived.Test.YtokahibbkdbndaaGreatDoorZ18
import Derived.Deep.LoopGhost
import Derived.Lib.SlMapFilter
import Derived.Maps.OwnOps
namespace Go.Proofs.YtokahibbkdbndaaGreatDoor
open Go.RowKit
theorem qlu (s:ByteArray) (c:Int) (w:World):Calls Tryz.prog 112 #[.string s,.int .u8 c] w fun e w'=>e=.returned (.int .i64 (Lib.indexByte s.data.toList c.toNat.toUInt8))∧w'=w:=Any.strings_IndexByte lays137 s c w
theorem q11s (r:Int) (w:World):Calls Tryz.prog 186 #[.int .i32 r] w fun e w'=>e=.returned (.bool (Lib.validRune r))∧w'=w:=Any.utf8_ValidRune lays119 r w
theorem q9s (r:Int) (h:128≤r):(∃ a x,Utf8.encode r=⟨#[a,x]⟩∧128≤x.toNat)∨(∃ a b x,Utf8.encode r=⟨#[a,b,x]⟩∧128≤x.toNat)∨∃ a b c x,Utf8.encode r=⟨#[a,b,c,x]⟩∧128≤x.toNat:=by
 obtain ⟨l,x,he,hx,h1,h2⟩:=q9r r h
 match l,h1,h2,he with
 | [a],_,_,he=>exact .inl ⟨a,x,he,hx⟩
 | [a,b],_,_,he=>exact .inr (.inl ⟨a,b,x,he,hx⟩)
 | [a,b,c],_,_,he=>exact .inr (.inr ⟨a,b,c,x,he,hx⟩)
theorem qlv (s:ByteArray) (x:UInt8) (hs:s.data.toList.all (fun b=>decide (b.toNat<128))=true) (hx:128≤x.toNat) (w:World):Calls Tryz.prog 112 #[.string s,.int .u8 (x.toNat:Int)] w fun e w'=>e=.returned (.int .i64 (-1))∧w'=w:=by
 have h:=qlu s (x.toNat:Int) w
 have hb:((x.toNat:Int)).toNat.toUInt8=x:=by simp
 have:Lib.indexByte s.data.toList x=-1:=by
  generalize s.data.toList=l at hs
  induction l with
  | nil=>rfl
  | cons b l ih =>
   rw [List.all_cons,Bool.and_eq_true] at hs
   have h1:=of_decide_eq_true hs.1
   have hne:(b==x)=false:=by
    rw [beq_eq_false_iff_ne]
    intro e
    subst e
    omega
   rw [Lib.indexByte,hne,ih hs.2]
   rfl
 rw [hb,this] at h
 exact h
theorem below_drewN' (w:World) (n:Nat):Below w.heap.size w (w.drewN n):=⟨rfl,rfl,rfl,Nat.le_refl _,fun _ _=>rfl⟩
theorem q6o (w:World) (o:Obj):Below w.heap.size w (w.alloc o):=(Below.refl _ w).alloc (Nat.le_refl _) o
set_option maxHeartbeats 4000000 in
set_option maxRecDepth 100000 in
theorem qlx (r:Int) (h:128≤r) (w:World):Calls Tryz.prog 177 #[.string ⟨#[13,10,0]⟩,.int .i32 r] w fun e w'=>e=.returned (.int .i64 (-1))∧Below w.heap.size w w':=by
 have h0:(0:Int)≤r:=by omega
 have h1:¬ r<128:=by omega
 go_enter Tryz.func177,Tryz.ntmps177
 go_wp2_with (first
  | (go_at_call 186;refine (q11s r _).mono ?_;rintro e w2 ⟨rfl,rfl⟩)
  | go_in)
 ·-- the rune of an error: none of the three
  have n0:=fun ty=>run_next_ascii (P:=Tryz.prog) w ⟨#[13,10,0]⟩ 0 ty (by decide) (by decide)
  have n1:=fun ty=>run_next_ascii (P:=Tryz.prog) w ⟨#[13,10,0]⟩ 1 ty (by decide) (by decide)
  have n2:=fun ty=>run_next_ascii (P:=Tryz.prog) w ⟨#[13,10,0]⟩ 2 ty (by decide) (by decide)
  have n3:=fun ty=>run_next_end (P:=Tryz.prog) w ⟨#[13,10,0]⟩ 3 ty (by decide)
  refine wp_loop_rounds 4 ?_
  rw [rounds_succ]
  go_wp2
  rw [rounds_succ]
  go_wp2
  rw [rounds_succ]
  go_wp2
  rw [rounds_succ]
  go_wp2
  go_ret
  exact ⟨rfl,q6o _ _⟩
 ·go_ret
  exact ⟨rfl,Below.refl _ _⟩
 ·rcases q9s r h with ⟨a,x,he,hx⟩ | ⟨a,b,x,he,hx⟩ | ⟨a,b,c,x,he,hx⟩
  ·have d1:((10:Int) != (x.toNat:Int))=true:=by rw [bne_iff_ne];omega
   have d2:((0:Int) != (x.toNat:Int))=true:=by rw [bne_iff_ne];omega
   go_step3
   go_wp2
   refine wp_loop_rounds 1 ?_
   rw [rounds_succ]
   go_wp2
   go_step3
   go_wp2
   go_quiet (fail)
   go_wp2
   go_quiet ((go_at_call 112;exact (qlv _ x (by decide) hx _).mono fun _ _ h=>⟨h.1,_,h.2⟩))
   go_wp2
   ·simp only [Exit.noGoto,Exit.inBlock,Exit.then]
    go_ret
    exact ⟨rfl,below_drewN' _ _⟩
   ·exfalso
    have hh:((10:Int) != (x.toNat:Int))=false:=by assumption
    exact absurd (d1.symm.trans hh) (by decide)
  ·have d1:((10:Int) != (x.toNat:Int))=true:=by rw [bne_iff_ne];omega
   have d2:((0:Int) != (x.toNat:Int))=true:=by rw [bne_iff_ne];omega
   go_step3
   go_wp2
   refine wp_loop_rounds 1 ?_
   rw [rounds_succ]
   go_wp2
   go_step3
   go_wp2
   go_quiet (fail)
   go_wp2
   go_quiet ((go_at_call 112;exact (qlv _ x (by decide) hx _).mono fun _ _ h=>⟨h.1,_,h.2⟩))
   go_wp2
   ·simp only [Exit.noGoto,Exit.inBlock,Exit.then]
    go_ret
    exact ⟨rfl,below_drewN' _ _⟩
   ·exfalso
    have hh:((0:Int) != (x.toNat:Int))=false:=by assumption
    exact absurd (d2.symm.trans hh) (by decide)
  ·go_step3
   go_wp2
   refine wp_loop_rounds 1 ?_
   rw [rounds_succ]
   go_wp2
   rw [Exit.noGoto_ret]
   go_ret
   exact ⟨rfl,Below.refl _ _⟩
end Go.Proofs.YtokahibbkdbndaaGreatDoor
namespace Go.Proofs.YtokahibbkdbndaaGreatDoor
open Go.RowKit Go.ChangeMaps
theorem qx2 {P:Program} (W:World) (r:Nat) (s:ByteArray) (pos:Nat) (h:W.heap[r]?=some (.stringIter s pos)) (hp:pos<s.size) (ty:TypeId) :
  (Instr.next (.pointer (some ⟨r,0,none⟩)) true ty).run P W=.ok (.tuple #[.bool true,.int .i64 pos,.int .i32 (Utf8.decode s pos).1]) (setBlock W r (.stringIter s (pos+(Utf8.decode s pos).2))):=by
 simp [Instr.next,getObj,setObj,Sem.run,h,hp,Result.andThen,goInt,setBlock]
theorem qx3 {P:Program} (W:World) (r:Nat) (s:ByteArray) (pos:Nat) (h:W.heap[r]?=some (.stringIter s pos)) (hp:¬ pos<s.size) (ty:TypeId) :
  (Instr.next (.pointer (some ⟨r,0,none⟩)) true ty).run P W=.ok (.tuple #[.bool false]) W:=by
 simp [Instr.next,getObj,Sem.run,h,hp]
theorem qlw (s:ByteArray) (r:Int) (w:World) (h0:0≤r) (h1:r<128):Calls Tryz.prog 177 #[.string s,.int .i32 r] w fun e w'=>e=.returned (.int .i64 (Lib.indexByte s.data.toList r.toNat.toUInt8))∧w'=w:=Any.strings_IndexRune_ascii lays152 s r w h0 h1
theorem qkn (s chars:ByteArray) (w:World) (h2:2≤chars.size) (h8:8<s.size) (hs:s.size<4294967281) (hcs:chars.size<4294967281) (hascii:∀ (j:Nat) b,chars.data.toList[j]?=some b→b.toNat<128) :
  Calls Tryz.prog 171 #[.string s,.string chars] w fun e w'=>e=.returned (.int .i64 (Lib.indexAny s.data.toList chars.data.toList))∧Below w.heap.size w w':=by
 refine (Any.strings_IndexAny_long lays153 (fun w=>by kernel_rfl) (by kernel_rfl) s chars w h2 h8 hs hcs hascii).mono fun e w'=>?_
 rintro ⟨rfl,rfl⟩
 exact ⟨rfl,((Below.refl _ _).alloc (Nat.le_refl _) _).alloc (by simp) _⟩
theorem qyz (n:Int) (w:World):Calls Tryz.prog 178 #[.int .i64 n] w fun e w'=>e=.returned (.bool (decide (8<n)))∧w'=w:=Any.strings_shouldUseASCIISet { lays153 with } n w
theorem qp1 {s:ByteArray} {i k:Nat} (h:Lib.NoAny s.data.toList crlf0 i) (hk:∀ j (hj:j<s.size),i≤j→j<k→crlf0.contains (s[j]'hj)=false):Lib.NoAny s.data.toList crlf0 k:=fun j b hj hb=>by
 by_cases e:j<i
 ·exact h j b e hb
 ·obtain ⟨hj2,hb2⟩:=List.getElem?_eq_some_iff.1 hb
  have hj3:j<s.size:=by rw [Array.length_toList] at hj2;exact hj2
  have:=hk j hj3 (by omega) hj
  rw [← hb2]
  exact this
theorem q8e (b:UInt8) (h:128≤b.toNat):crlf0.contains b=false:=by
 unfold crlf0
 have h1:b≠13:=fun e=>by subst e;revert h;decide
 have h2:b≠10:=fun e=>by subst e;revert h;decide
 have h3:b≠0:=fun e=>by subst e;revert h;decide
 simp [h1,h2,h3]
theorem q6q {B:Nat} {a w:World} (h:Below B a w) {r:Nat} (hr:B≤r) (o:Obj):Below B a (setBlock w r o) :=
 ⟨h.os,h.tape,h.output,by simp only [setBlock,Array.size_setIfInBounds];exact h.size,fun k hk=>by
  simp only [setBlock]
  rw [Array.getElem?_setIfInBounds_ne (by omega)]
  exact h.block k hk⟩
set_option maxHeartbeats 8000000 in
set_option maxRecDepth 1000000 in
theorem qko (s:ByteArray) (w:World) (h8:s.size≤8) :
  Calls Tryz.prog 171 #[.string s,.string ⟨#[13,10,0]⟩] w fun e w'=>e=.returned (.int .i64 (Lib.indexAny s.data.toList crlf0))∧Below w.heap.size w w':=by
 have h8z:decide ((8:Int)<(s.size:Int))=false:=decide_eq_false (by omega)
 have hb0:Below w.heap.size w (w.iter s 0):=q6o _ _
 have hi0:=World.iter_heap w s 0
 go_enter Tryz.func171,Tryz.ntmps171
 go_wp2_with (go_at_call 178;refine (qyz _ _).mono ?_;rintro e w' ⟨rfl,hw⟩;rw [hw,h8z])
 go_loopg [9,10] s.size (fun g _ _ wx=>∃ i:Nat,i+g=s.size∧wx.heap[w.heap.size]?=some (.stringIter s i)∧Below w.heap.size w wx∧Lib.NoAny s.data.toList crlf0 i)
 case atStart=>exact ⟨0,by omega,hi0,hb0,Lib.NoAny.zero _ _⟩
 case round =>
  obtain ⟨i,hig,hit,hbel,hno⟩:=hrel
  cases gk with
  | zero =>
   obtain rfl:i=s.size:=by omega
   have hnx:=qx3 (P:=Tryz.prog) wr w.heap.size s s.size hit (by omega)
   have hnone:Lib.indexAny s.data.toList crlf0=-1:=Lib.indexAny_none (by rw [Array.length_toList];exact hno)
   go_wp2
   go_ret
   exact ⟨by rw [hnone];rfl,hbel⟩
  | succ g =>
   have hi:i<s.size:=by omega
   have hnx:=qx2 (P:=Tryz.prog) wr w.heap.size s i hit hi
   have hlt:=(Array.getElem?_eq_some_iff.1 hit).1
   by_cases hx:(s[i]'hi).toNat<128
   ·rw [decode_ascii s i hi hx] at hnx
    simp only at hnx
    have hset:(setBlock wr w.heap.size (.stringIter s (i+1))).heap[w.heap.size]?=some (.stringIter s (i+1)):=by
     simp only [setBlock]
     rw [Array.getElem?_setIfInBounds_self_of_lt hlt]
    have hb1:=q6q hbel (Nat.le_refl _) (.stringIter s (i+1))
    obtain ⟨x,hxe⟩:∃ x:UInt8,s[i]'hi=x:=⟨_,rfl⟩
    rw [hxe] at hnx hx
    have hxl:s.data.toList[i]?=some x:=by rw [← hxe];exact Lib.data_getElem? s i hi
    have hcon:=Lib.contains_iff_indexByte crlf0 x
    have hback:((x.toNat:Int)).toNat.toUInt8=x:=by simp
    have hr:=fun W=>qlw ⟨#[13,10,0]⟩ (x.toNat:Int) W (by omega) (by omega)
    rw [hback] at hr
    have hcd:(⟨#[13,10,0]⟩:ByteArray).data.toList=crlf0:=rfl
    rw [hcd] at hr
    cases hin:crlf0.contains x with
    | false =>
     rw [hin] at hcon
     have hlt0:¬ ((0:Int)≤Lib.indexByte crlf0 x):=of_decide_eq_false hcon.symm
     have hno1:Lib.NoAny s.data.toList crlf0 (i+1):=hno.succ hxl hin
     clear hcon
     go_wp2_with (first
      | (go_at_call 177;refine (hr _).mono ?_;rintro e w' ⟨rfl,rfl⟩)
      | go_in)
     go_roundg g
     case measure=>omega
     case rel=>exact ⟨i+1,by omega,hset,hb1,hno1⟩
    | true =>
     rw [hin] at hcon
     have hge0:(0:Int)≤Lib.indexByte crlf0 x:=of_decide_eq_true hcon.symm
     have hhit:Lib.indexAny s.data.toList crlf0=i:=Lib.indexAny_hit hno hxl hin
     clear hcon
     go_wp2_with (first
      | (go_at_call 177;refine (hr _).mono ?_;rintro e w' ⟨rfl,rfl⟩)
      | go_in)
     go_ret
     exact ⟨by rw [hhit];rfl,hb1⟩
   ·obtain ⟨d1,d2,d3,d4,d5⟩:=q8w s i hi (by omega)
    have hno1:Lib.NoAny s.data.toList crlf0 (i+(Utf8.decode s i).2):=qp1 hno (fun j hj h1 h2=>q8e _ (d5 j hj h1 h2))
    generalize (Utf8.decode s i).1=c at hnx d1 d2
    generalize (Utf8.decode s i).2=k at hnx d3 d4 d5 hno1
    have hset:(setBlock wr w.heap.size (.stringIter s (i+k))).heap[w.heap.size]?=some (.stringIter s (i+k)):=by
     simp only [setBlock]
     rw [Array.getElem?_setIfInBounds_self_of_lt hlt]
    have hb1:=q6q hbel (Nat.le_refl _) (.stringIter s (i+k))
    have hsz1:w.heap.size<(setBlock wr w.heap.size (.stringIter s (i+k))).heap.size:=by simp only [setBlock,Array.size_setIfInBounds];exact hlt
    have hr:=fun W=>qlx (c:Int) (by omega) W
    go_wp2_with (first
     | (go_at_call 177;refine (hr _).mono ?_;rintro e w' ⟨rfl,hbw⟩)
     | go_in)
    go_roundg (s.size - (i+k))
    case measure=>omega
    case rel=>exact ⟨i+k,by omega,by rw [hbw.block _ hsz1];exact hset,hb1.trans (hbw.mono (by omega)),hno1⟩
end Go.Proofs.YtokahibbkdbndaaGreatDoor
namespace Go.Proofs.YtokahibbkdbndaaGreatDoor
open Go.RowKit Go.Maps
def digL (l:List UInt8):Bool:=match l with
 | b::_=>decide (48≤b.toNat)&&decide (b.toNat≤57)
 | []=>false
def pdL (k:Lit) (_:DataW Unit):Bool:=match k with
 | .string l=>digL l
 | _=>false
theorem qf8 (l:List (ByteArray × ByteArray)):Lib.deleteFuncD pdL (datM l)=datM (l.filter fun p=>!digP p.1):=by
 unfold datM Lib.deleteFuncD
 simp only
 congr 1
 induction l with
 | nil=>rfl
 | cons p l ih =>
  rw [List.map_cons,List.filter_cons,List.filter_cons]
  have:(!pdL (litM p).1 (litM p).2)=!digP p.1:=rfl
  rw [this]
  cases !digP p.1 with
  | true=>simp [ih]
  | false=>simpa using ih
theorem qip (w:World) (row:Option Nat):w.grownBy w row:=⟨rfl,rfl,rfl,Nat.le_refl _,fun _ _ _=>rfl⟩
theorem q90 (k:ByteArray) (h:0<k.size):digP k=(decide ((48:Int)≤(k[0].toNat:Int))&&decide ((k[0].toNat:Int)≤57)):=by
 obtain ⟨⟨l⟩⟩:=k
 cases l with
 | nil=>cases h
 | cons b l =>
  show (decide (48≤b.toNat)&&decide (b.toNat≤57))=(decide ((48:Int)≤(b.toNat:Int))&&decide ((b.toNat:Int)≤57))
  rw [Bool.eq_iff_iff]
  simp
  omega
set_option maxRecDepth 100000 in
theorem q91 (k v:ByteArray) (hk:k.size≠0) (w:World):Calls Tryz.prog 133 #[.string k,.string v] w fun e w'=>e=.returned (.bool (digP k))∧w.grownBy w' none:=by
 have hp:=q90 k (by omega)
 go_enter Tryz.func133,Tryz.ntmps133
 go_wp2
 ·go_ret
  refine ⟨?_,qip _ _⟩
  first | rw [hp] | skip
  rename_i h
  simp [h]
 ·go_ret
  refine ⟨?_,qip _ _⟩
  first | rw [hp] | skip
  rename_i h
  have:decide ((48:Int)≤(k[0].toNat:Int))=false:=decide_eq_false (by omega)
  rw [this]
  rfl
set_option maxRecDepth 100000 in
theorem RM_inv {v:Value} {y:DataW Unit × List MemPlace} (h:RM Tryz.prog 9 v=some y):∃ s,v=.string s:=by
 unfold RM plainElem at h
 rw [Tryz.underlying9] at h
 cases v <;> simp at h
 exact ⟨_,rfl⟩
set_option maxHeartbeats 4000000 in
set_option maxRecDepth 100000 in
theorem q8z (b n:Nat) (l:List (ByteArray × ByteArray)) (w:World) (hown:w.ownsMap Tryz.prog 9 (RM Tryz.prog 9) b n (datM l)) (hne:∀ p∈l,p.1.size≠0) :
  Calls Tryz.prog 132 #[.map (some b),.func (.func 133) #[] #[]] w fun e w'=>e=.returned (.tuple #[])∧w'.ownsMap Tryz.prog 9 (RM Tryz.prog 9) b n (datM (l.filter fun p=>!digP p.1))∧w.grownBy w' (some b):=by
 have K:=Maps.string_keyed Tryz.underlying9
 have hu:Tryz.prog.underlying 108=some (.map 9 9):=Tryz.underlying108
 obtain ⟨es0,hes,hap,hkeys⟩:=hown.entries K
 have hes':l.map litM=es0:=by unfold datM at hes;injection hes
 have hcalls:=q91
 have hfin:=qf8 l
 rw [hes] at hown hfin
 have hin:∀ (k:ByteArray),Maps.has (.map es0) (.string k.data.toList)=true→k.size≠0:=by
  intro k hk
  rw [Maps.has_eq,List.any_eq_true] at hk
  obtain ⟨p,hp,hs⟩:=hk
  rw [← hes',List.mem_map] at hp
  obtain ⟨q,hq,rfl⟩:=hp
  have h0:=hne q hq
  have e:q.1.data.toList=k.data.toList:=by simpa [litM,Lit.sameKey] using hs
  have e2:q.1.data.toList.length=q.1.size:=by rw [Array.length_toList];rfl
  have e3:k.data.toList.length=k.size:=by rw [Array.length_toList];rfl
  rw [← e3,← e,e2]
  exact h0
 rw [← hfin]
 clear hfin
 go_enter Tryz.func132,Tryz.ntmps132
 go_wp2_with (first
  | (at_range;refine wpList_range_own _ rfl _ 108 rfl 9 9 K hu _ b n _ rfl hown ?_;intro w0 hrg0 hg0 hs0)
  | go_in)
 go_frame
 go_loopw [8] (fun _ wr=>∃ (left:Lit→Bool) (cnt:Nat),wr.ranges Tryz.prog 9 (RM Tryz.prog 9) b w.heap.size n (Fk pdL es0 left) left cnt∧w.grownBy wr (some b)∧∀ kl,left kl=true→Maps.has (.map es0) kl=true)
  (fun _ wr=>wr.rangeLeft b w.heap.size)
 case atStart=>exact ⟨_,_,by rw [Fk_start hkeys];exact hrg0,hg0.but _,fun _ h=>h⟩
 case round =>
  obtain ⟨left,cnt,hrg,hgw,hlf⟩:=hrel
  go_wp2_with (first
   | (at_next;refine wpList_next_ranges _ rfl _ rfl 9 K (RM Tryz.prog 9) Value.string Value.string (fun key kl h=>by obtain ⟨s,e,_⟩:=(qly Tryz.underlying9 _ _).1 h;exact ⟨s,e⟩) (fun v y h=>RM_inv h) b w.heap.size n _ _ _ rfl hrg ?_ ?_)
   | go_in)
  ·intro _ hl0
   go_wp2
   go_end0
   exact ⟨rfl,by rw [← Fk_end hl0];exact hrg.owns,hgw⟩
  ·intro k v kl yd yp w1 cnt1 hkey hlx hv hat hrg1 hlt hg1 hs1 hen
   have hgw1:=hgw.andThen hg1 (fun j hj=>by cases hj;exact Or.inl (Nat.le_refl _))
   obtain ⟨k',ek,hks,rfl⟩:=(qly Tryz.underlying9 _ _).1 hkey
   cases ek
   have hk0:=hin k (hlf _ hlx)
   have hc:=hcalls k v hk0 w1
   have hbl:=hrg1.owns.lt
   have hrl:=hrg1.lt
   have hpe:pdL (.string k.data.toList) yd=digP k:=rfl
   cases hp:digP k <;> rw [hp] at hc hpe
   ·go_wp2_with (first
     | (go_at_call 133;refine hc.mono ?_;rintro e w2 ⟨rfl,hg2⟩)
     | go_in)
    have hrg2:=hrg1.kept hg2 (by simp) (by simp)
    go_roundw
    case rel=>exact ⟨_,cnt1,by rw [← Fk_stays hap (kl:=.string k.data.toList) trivial hlx hpe hat];exact hrg2,hgw1.andThen hg2 (fun j hj=>by cases hj),fun z hz=>hlf z (by simp at hz;exact hz.1)⟩
    case measure=>rw [hrg2.left_eq,hrg.left_eq];exact hlt
   ·go_wp2_with (first
     | (go_at_call 133;refine hc.mono ?_;rintro e w2 ⟨rfl,hg2⟩;have hrg2:=hrg1.kept hg2 (by simp) (by simp))
     | (at_delete;refine wpList_delete_ranges _ rfl _ _ 108 9 rfl 9 K hu (RM Tryz.prog 9) b w.heap.size n _ _ _ rfl hrg2 _ _ rfl hkey ?_;intro w3 cnt3 hrg3 hle hturn;go_frame)
     | go_in)
    rw [strike_twice] at hrg3
    go_roundw
    case rel=>exact ⟨_,cnt3,by rw [← Fk_struck hap (kl:=.string k.data.toList) trivial hlx hpe hat];exact hrg3,(hgw1.andThen hg2 (fun j hj=>by cases hj)).andThen hturn.grown (fun j hj=>by cases hj;exact Or.inr rfl),fun z hz=>hlf z (by simp at hz;exact hz.1)⟩
    case measure=>rw [hrg3.left_eq,hrg.left_eq];omega
end Go.Proofs.YtokahibbkdbndaaGreatDoor
namespace Go.Proofs.YtokahibbkdbndaaGreatDoor
open Go.RowKit Go.Maps
theorem q8f (s sep:ByteArray) (m:Int) (w:World) (hs:s.size<4294967281) (hm:w.cell? ⟨0,0,none⟩=some (.int .i64 m)) :
  Calls Tryz.prog 105 #[.string s,.string sep] w fun e w'=>e=.returned (.tuple #[.string ⟨(Lib.cut s.data.toList sep.data.toList).1.toArray⟩,.string ⟨(Lib.cut s.data.toList sep.data.toList).2.1.toArray⟩,.bool (Lib.cut s.data.toList sep.data.toList).2.2])∧∃ n,w'=w.drewN n:=Any.strings_Cut lays145 s sep m w hs hm
theorem q125 (B b:Nat) (bs:List Value) (s:ByteArray) (w:World) (h:Lib.IsBuilder 157 5 B b bs w) (hlen:bs.length+s.size≤140737488355328) (hBw:B≤w.heap.size) :
  Calls Tryz.prog 106 #[.pointer (some ⟨b,0,none⟩),.string s] w fun e w'=>e=.returned (.tuple #[.int .i64 s.size,.nilIface])∧(Lib.BuilderAt 157 5 B b (.pointer (some ⟨b,0,none⟩)) (bs++Lib.strCells s) w'∧Below B w w'):=Any.Builder_WriteString lays166 q9 B b bs s w h hlen hBw
theorem q71 (B b:Nat) (l:List UInt8) (w:World) (h:Lib.IsBuilder 157 5 B b (Lib.byteCells l) w) (hBw:B≤w.heap.size) :
  Calls Tryz.prog 107 #[.pointer (some ⟨b,0,none⟩)] w fun e w'=>e=.returned (.string ⟨l.toArray⟩)∧Below B w w':=Any.Builder_String_any lays169 qa B b l w h hBw
theorem q3n (k:List UInt8):∀ l:List (ByteArray × ByteArray),(datM l).atKey (.string k) (.lit (.string []))=.lit (.string (getM l k)):=by
 intro l
 unfold datM DataW.atKey getM
 simp only
 induction l with
 | nil=>rfl
 | cons p l ih =>
  rw [List.map_cons,List.find?_cons,List.find?_cons]
  have:(litM p).1.sameKey (.string k)=(p.1.data.toList==k):=rfl
  simp only [this]
  cases p.1.data.toList==k with
  | true=>rfl
  | false=>exact ih
theorem q11x {P:Program} (w:World) {ops:Array Oper} {rest:List Oper} {o:Oper} {a:Act} {Q:Exit→Act→World→Prop}
  (hg:o.guard=none) (m x:Operand) (t:TypeId) (hop:o.op=Op.lookup t m x false) (k:TypeId) (ht:P.underlying t=some (.map k k)) (he:P.underlying k=some .string) (hz:(zeroValue k).run P w=.ok (.string ⟨#[]⟩) w) (b n:Nat) (l:List (ByteArray × ByteArray))
  (hm:a.eval m=.map (some b)) (hown:w.ownsMap P k (RM P k) b n (datM l)) (key:ByteArray) (hx:a.eval x=.string key) (hks:key.size≤maxLen)
  (hK:wpList P ops Q rest (a.put o.dst (.string ⟨(getM l key.data.toList).toArray⟩)) w):wpList P ops Q (o::rest) a w:=by
 refine wpList_plain hg fun K' hK'=>?_
 obtain ⟨v,ps,hrun,hv⟩:=hown.lookup (t:=t) (e:=k) (Maps.string_keyed he) ht hz (zd:=.lit (.string [])) (zp:=[]) (plainElem_string he (s:=⟨#[]⟩) (Nat.zero_le _)) (key:=.string key) (kl:=.string key.data.toList) ((qly he _ _).2 ⟨key,rfl,hks,rfl⟩)
 rw [q3n] at hv
 have hv2:v=.string ⟨(getM l key.data.toList).toArray⟩:=by
  unfold RM plainElem at hv
  rw [he] at hv
  cases v <;> simp at hv
  rename_i s
  have e:=hv.2.1
  rw [← e,Array.toArray_toList]
 subst hv2
 unfold Oper.wp
 simp [execOp,hop,hm,hx,hrun,Result.andThen]
 exact hK' _ _ hK
theorem qps {P:Program} {k:TypeId} {b n:Nat} {D:DataW Unit} {w w':World} (h:w.ownsMap P k (RM P k) b n D) (e:w'.heap[b]?=w.heap[b]?):w'.ownsMap P k (RM P k) b n D:=by
 obtain ⟨es,clock,hb,r⟩:=h
 exact ⟨es,clock,by rw [e];exact hb,r⟩
theorem q8g (s:List UInt8) (sep:List UInt8) (h:(Lib.cut s sep).2.2=true):(Lib.cut s sep).2.1.length+sep.length≤s.length:=by
 unfold Lib.cut at *
 split at h
 ·rename_i h0
  rw [if_pos h0]
  have:=Lib.index_room s sep h0
  simp only [List.length_drop]
  omega
 ·cases h
theorem q8h (s:List UInt8) (sep:List UInt8):(Lib.cut s sep).2.1.length≤s.length∧(Lib.cut s sep).1.length≤s.length:=by
 unfold Lib.cut
 split
 ·simp;omega
 ·simp
theorem q7y (w:World) (n:Nat) (a:Addr):(w.drewN n).cell? a=w.cell? a:=rfl
theorem q78 (out a b:List UInt8):Lib.byteCells out++Lib.strCells (⟨a.toArray⟩++⟨b.toArray⟩)=Lib.byteCells (out++(a++b)):=by
 have:(⟨a.toArray⟩++⟨b.toArray⟩:ByteArray)=⟨(a++b).toArray⟩:=by
  apply ByteArray.ext
  simp
 rw [this]
 show Lib.byteCells out++Lib.byteCells (a++b)=_
 simp [Lib.byteCells]
theorem qlg {T e:TypeId} {B b:Nat} {bs:List Value} {w:World} (h:Lib.IsBuilder T e B b bs w) (n:Nat):Lib.IsBuilder T e B b bs (w.drewN n):=h
theorem qlf {T e:TypeId} {w:World} {P:Program}:Lib.IsBuilder T e w.heap.size w.heap.size (Lib.byteCells []) (w.alloc (Obj.cells #[Value.pointer none,Value.slice none 0 0] T)):=by
 refine .inl ⟨Nat.le_refl _,.slice none 0 0,(MapKept.heap_alloc w _).1,World.ownsRow_nil _ _ _ _,?_⟩
 simp [Value.ownBlock]
theorem q6p {B:Nat} {a w:World} (h:Below B a w) (n:Nat):Below B a (w.drewN n):=⟨h.os,h.tape,h.output,h.size,h.block⟩
theorem q6n (w:World) (o:Obj):Below w.heap.size w (w.alloc o):=(Below.refl _ w).alloc (Nat.le_refl _) o
theorem q10x (r:List UInt8):(⟨r.toArray⟩:ByteArray).extract 0 (min (r.length:Int) 4000).toNat=⟨(r.take 4000).toArray⟩:=by
 have e:(min (r.length:Int) 4000).toNat=min r.length 4000:=by omega
 rw [e]
 apply ByteArray.ext
 rw [ByteArray.data_extract]
 simp
 omega
set_option maxHeartbeats 4000000 in
set_option maxRecDepth 100000 in
theorem qem (g b n:Nat) (m:Int) (l:List (ByteArray × ByteArray)) (s:ByteArray) (w:World) (r:List UInt8) (hs:s.size<4294967281) (hm:w.cell? ⟨0,0,none⟩=some (.int .i64 m)) (hg:w.cell? ⟨g,6,none⟩=some (.map (some b)))
  (hown:w.ownsMap Tryz.prog 9 (RM Tryz.prog 9) b n (datM l)) (h:expF l (s.size+1) s.data.toList []=some r) :
  Calls Tryz.prog 81 #[.pointer (some ⟨g,0,none⟩),.string s] w fun e w'=>e=.returned (.string ⟨(r.take 4000).toArray⟩)∧Below w.heap.size w w':=by
 have hu:Tryz.prog.underlying 108=some (.map 9 9):=Tryz.underlying108
 have hbel0:=Below.refl w.heap.size w
 go_enter Tryz.func81,Tryz.ntmps81
 go_wp2
 go_loopw [1] (fun u1 wr=>∃ (sb:ByteArray) (out:List UInt8) (k:Nat),u1=.string sb∧sb.size<4294967281∧Lib.IsBuilder 157 5 w.heap.size w.heap.size (Lib.byteCells out) wr∧Below w.heap.size w wr∧w.heap.size≤wr.heap.size∧expF l k sb.data.toList out=some r)
  (fun u1 _=>(strV u1).size)
 case atStart =>
  refine ⟨s,[],s.size+1,rfl,hs,?_,?_,?_,h⟩
  ·exact qlf (P:=Tryz.prog)
  ·exact q6n _ _
  ·exact (q6n _ _).size
 case round =>
  obtain ⟨sb,out,k,rfl,hsb,hB,hbel,hsz,hexp⟩:=hrel
  cases k with
  | zero=>cases hexp
  | succ k =>
  have hmw:wr.cell? ⟨0,0,none⟩=some (.int .i64 m):=by rw [hbel.cell (q7z hm)];exact hm
  have hgw:wr.cell? ⟨g,6,none⟩=some (.map (some b)):=by rw [hbel.cell (q7z hg)];exact hg
  have how:wr.ownsMap Tryz.prog 9 (RM Tryz.prog 9) b n (datM l):=qps hown (hbel.block b hown.lt)
  rw [expF] at hexp
  rcases e1:Lib.cut sb.data.toList [36,123] with ⟨a1,r1,k1⟩
  have q1:=q8h sb.data.toList [36,123]
  have q2:=q8g sb.data.toList [36,123]
  rw [e1] at hexp q1 q2
  simp only at hexp q1 q2
  rcases e2:Lib.cut r1 [125] with ⟨a2,r2,k2⟩
  have q3:=q8h r1 [125]
  have q4:=q8g r1 [125]
  rw [e2] at hexp q3 q4
  simp only at hexp q3 q4
  have hsl:sb.data.toList.length=sb.size:=by rw [Array.length_toList];rfl
  rw [hsl] at q1 q2
  have hr1:(⟨r1.toArray⟩:ByteArray).size<4294967281:=by show r1.toArray.size<_;rw [List.size_toArray];omega
  have hm1:∀ n,(wr.drewN n).cell? ⟨0,0,none⟩=some (.int .i64 m):=fun n=>(q7y wr n _).trans hmw
  have how2:∀ n1,(wr.drewN n1).ownsMap Tryz.prog 9 (RM Tryz.prog 9) b n (datM l):=fun n1=>qps how rfl
  have hB2:∀ n1,Lib.IsBuilder 157 5 w.heap.size w.heap.size (Lib.byteCells out) (wr.drewN n1):=fun n1=>qlg hB n1
  have hsz2:∀ n1,w.heap.size≤(wr.drewN n1).heap.size:=fun _=>hsz
  have hg2:∀ n1,(wr.drewN n1).cell? ⟨g,6,none⟩=some (.map (some b)):=fun _=>hgw
  have hb2:∀ n1,Below w.heap.size w (wr.drewN n1):=fun n1=>q6p hbel n1
  have hbl0:(Lib.byteCells out).length=out.length:=by simp [Lib.byteCells]
  have e1':Lib.cut sb.data.toList (⟨#[36,123]⟩:ByteArray).data.toList=(a1,r1,k1):=e1
  have e2':Lib.cut (⟨r1.toArray⟩:ByteArray).data.toList (⟨#[125]⟩:ByteArray).data.toList=(a2,r2,k2):=e2
  by_cases hgo:k1=true∧k2=true
  ·obtain ⟨rfl,rfl⟩:=hgo
   rw [if_neg (by simp)] at hexp
   split at hexp
   case isFalse=>cases hexp
   rename_i hlen
   have hlen':(Lib.byteCells out).length+(⟨a1.toArray⟩++⟨(getM l a2).toArray⟩:ByteArray).size≤140737488355328:=by
    rw [hbl0,ByteArray.size_append]
    show out.length+(a1.toArray.size+(getM l a2).toArray.size)≤_
    rw [List.size_toArray,List.size_toArray]
    exact hlen
   go_wp2_with (first
    | (go_at_call 105;refine (q8f _ _ m _ (by first | with_reducible exact hsb | with_reducible exact hr1) (by first | with_reducible exact hmw | with_reducible exact hm1 _)).mono ?_;rintro e w2 ⟨rfl,n1,rfl⟩;simp only [e1',e2'])
    | (at_lookup;refine q11x _ rfl _ _ 108 rfl 9 hu Tryz.underlying9 (Tryz.zeroValue9 _) b n l rfl (how2 _) ⟨a2.toArray⟩ rfl (by show a2.toArray.size≤_;rw [List.size_toArray];unfold maxLen;omega) ?_)
    | (go_at_call 106;refine (q125 w.heap.size w.heap.size (Lib.byteCells out) _ _ (hB2 _) hlen' (hsz2 _)).mono ?_;rintro e w4 ⟨rfl,hBA,hbl⟩)
    | go_in)
   go_roundw
   case rel=>exact ⟨⟨r2.toArray⟩,out++(a1++getM l a2),k,rfl,by show r2.toArray.size<_;rw [List.size_toArray];omega,by rw [← q78];exact .inr hBA,(hb2 _).trans hbl,Nat.le_trans hsz hbl.size,hexp⟩
   case measure =>
    have z1:=q2 trivial
    have z2:=q4 trivial
    show r2.toArray.size<sb.size
    rw [List.size_toArray]
    simp only [List.length_cons,List.length_nil] at z1 z2
    omega
  ·have hstop:k1=false∨k2=false:=by
    cases k1 <;> cases k2 <;> simp at hgo ⊢
   rw [if_pos hstop] at hexp
   split at hexp
   case isFalse=>cases hexp
   rename_i hlen
   injection hexp with hexp
   have hlen':(Lib.byteCells out).length+sb.size≤140737488355328:=by rw [hbl0,← hsl];exact hlen
   have hap:Lib.byteCells out++Lib.strCells sb=Lib.byteCells (out++sb.data.toList):=by
    show Lib.byteCells out++Lib.byteCells sb.data.toList=_
    simp [Lib.byteCells]
   have hfin:(⟨r.toArray⟩:ByteArray).extract 0 (min (r.length:Int) 4000).toNat=⟨(r.take 4000).toArray⟩:=q10x r
   rcases hstop with rfl | rfl
   ·go_wp2_with (first
     | (go_at_call 105;refine (q8f _ _ m _ (by first | with_reducible exact hsb | with_reducible exact hr1) (by first | with_reducible exact hmw | with_reducible exact hm1 _)).mono ?_;rintro e w2 ⟨rfl,n1,rfl⟩;simp only [e1',e2'])
     | (go_at_call 106;refine (q125 w.heap.size w.heap.size (Lib.byteCells out) _ _ (hB2 _) hlen' (hsz2 _)).mono ?_;rintro e w4 ⟨rfl,hBA,hbl⟩;rw [hap] at hBA;have hsz4:=Nat.le_trans hsz hbl.size;have hw4:=(hb2 _).trans hbl)
     | (go_at_call 107;refine (q71 w.heap.size w.heap.size (out++sb.data.toList) _ (.inr hBA) hsz4).mono ?_;rintro e w5 ⟨rfl,hbl5⟩)
     | go_in)
    all_goals (go_ret;exact ⟨by rw [← hfin];rfl,hw4.trans hbl5⟩)
   ·go_wp2_with (first
     | (go_at_call 105;refine (q8f _ _ m _ (by first | with_reducible exact hsb | with_reducible exact hr1) (by first | with_reducible exact hmw | with_reducible exact hm1 _)).mono ?_;rintro e w2 ⟨rfl,n1,rfl⟩;simp only [e1',e2'])
     | (go_at_call 106;refine (q125 w.heap.size w.heap.size (Lib.byteCells out) _ _ (hB2 _) hlen' (hsz2 _)).mono ?_;rintro e w4 ⟨rfl,hBA,hbl⟩;rw [hap] at hBA;have hsz4:=Nat.le_trans hsz hbl.size;have hw4:=(hb2 _).trans hbl)
     | (go_at_call 107;refine (q71 w.heap.size w.heap.size (out++sb.data.toList) _ (.inr hBA) hsz4).mono ?_;rintro e w5 ⟨rfl,hbl5⟩)
     | go_in)
    all_goals (go_ret;exact ⟨by rw [← hfin];rfl,hw4.trans hbl5⟩)
end Go.Proofs.YtokahibbkdbndaaGreatDoor
namespace Go.Proofs.YtokahibbkdbndaaGreatDoor
open Go.RowKit
theorem bel_of {w w':World} (h:Below w.heap.size w w'):Bel w w':=⟨h.os,h.tape,h.output,h.size,h.block⟩
theorem gw_ml {w:World} (h:GW w):∃ m,w.cell? ⟨0,0,none⟩=some (.int .i64 m):=by unfold GW at h;exact h.1
theorem gw_pow {w : World} (h : GW w) : Lib.TabIs Tryz.prog w "internal/strconv.uint64pow10" .u64 Lib.pow10Tab := by
 unfold GW at h
 obtain ⟨_,⟨t,fz,h⟩,_⟩:=h
 have hn : Tryz.prog.globalNamed "internal/strconv.uint64pow10" = some 1 := by kernel_rfl
 unfold Lib.TabIs World.var?
 rw [hn]
 simp only [Option.bind_some,h]
theorem q7v (l:List UInt8):decide (0≤Lib.indexAny l crlf0)=l.any fun b=>crlf0.contains b:=by
 induction l with
 | nil=>rfl
 | cons b l ih =>
  rw [List.any_cons,Lib.indexAny,← ih]
  cases crlf0.contains b with
  | true=>rfl
  | false =>
   have:=Lib.indexAny_ge crlf0 l
   by_cases h:Lib.indexAny l crlf0=-1
   ·rw [h];rfl
   ·have h2:(Lib.indexAny l crlf0==-1)=false:=by simpa using h
    simp only [h2,Bool.false_eq_true,if_false,Bool.false_or]
    rw [Bool.eq_iff_iff]
    simp
    omega
set_option maxRecDepth 100000 in
theorem q7t (s:ByteArray) (w:World) (hs:s.size<4294967281):Calls Tryz.prog 164 #[.string s,.string ⟨#[13,10,0]⟩] w fun e w'=>e=.returned (.bool (s.data.toList.any fun b=>crlf0.contains b))∧Below w.heap.size w w':=by
 have hc:Calls Tryz.prog 171 #[.string s,.string ⟨#[13,10,0]⟩] w fun e w'=>e=.returned (.int .i64 (Lib.indexAny s.data.toList crlf0))∧Below w.heap.size w w':=by
  by_cases h8:s.size≤8
  ·exact qko s w h8
  ·exact qkn s ⟨#[13,10,0]⟩ w (by decide) (by omega) hs (by decide) (fun j b hb=>by
    have:b∈([13,10,0]:List UInt8):=List.mem_of_getElem? hb
    simp at this
    rcases this with rfl | rfl | rfl <;> decide)
 go_enter Tryz.func164,Tryz.ntmps164
 go_wp2_with (go_at_call 171;refine hc.mono ?_;rintro e w' ⟨rfl,hb⟩)
 go_ret
 refine ⟨?_,hb⟩
 rw [← q7v s.data.toList]
 rfl
theorem qsx {w w':World} {Z:ZMap} (hG:GW w) (hb:Bel w w') (hZ:∀ b o u,Z b o=some u→w.cell? ⟨b,o,none⟩=some u):Rel (wb w) Z (fun _ _=>none) (fun _=>none) (fun i=>([]:List B)[i]?) (fun _=>false) w' :=
 ⟨wb_bel.2 hb,⟨hG,GB.no⟩,fun b o u h=>by rw [hb.cell _ (q7z (hZ _ _ _ h))];exact hZ _ _ _ h,(fun _ _ _ h=>by cases h),by simp,by simp,by simp,by simp,by simp⟩
theorem args1 {cargs:Array Value} {a:V} {Z Y:ZMap} (hs:cargs.size=1) (hr:∀ (i:Nat) u x,cargs[i]?=some u→[a][i]?=some x→Rep Z Y noM u x):∃ u,cargs=#[u]∧Rep Z Y noM u a:=by
 refine ⟨cargs[0]'(by omega),?_,hr 0 _ _ (Array.getElem?_eq_getElem _) rfl⟩
 apply Array.ext (by simpa using hs)
 intro i h1 h2
 have:i=0:=by omega
 subst this
 rfl
theorem args2 {cargs:Array Value} {a b:V} {Z Y:ZMap} (hs:cargs.size=2) (hr:∀ (i:Nat) u x,cargs[i]?=some u→[a,b][i]?=some x→Rep Z Y noM u x):∃ u v,cargs=#[u,v]∧Rep Z Y noM u a∧Rep Z Y noM v b:=by
 refine ⟨cargs[0]'(by omega),cargs[1]'(by omega),?_,hr 0 _ _ (Array.getElem?_eq_getElem _) rfl,hr 1 _ _ (Array.getElem?_eq_getElem _) rfl⟩
 apply Array.ext (by simpa using hs)
 intro i h1 h2
 match i,h1 with
 | 0,_=>rfl
 | 1,_=>rfl
 | i+2,h1=>omega
theorem q7m {f:FuncId} {args:List V} {x:V} (ho:okRes x=true) (h:∀ (w:World) (Z Y:ZMap) (cargs:Array Value),GW w→cargs.size=args.length→(∀ (i:Nat) u x,cargs[i]?=some u→args[i]?=some x→Rep Z Y noM u x) →
  Calls Tryz.prog f cargs w fun e w'=>∃ cv,e=.returned cv∧Bel w w'∧∀ (Z:ZMap) Y,Rep Z Y noM cv x):CallOk Tryz.prog f args (x,[]):=by
 refine ⟨ho,(fun b hb=>by cases hb),fun w Z Y cargs hG hZ hY hs hr=>(h w Z Y cargs hG hs hr).mono fun e w'=>?_⟩
 rintro ⟨cv,rfl,hb,r⟩
 exact ⟨cv,Z,fun _=>none,rfl,ZUp.refl,qsx hG hb hZ,r _ _,fun i h=>absurd rfl h⟩
theorem q88 (s sub:ByteArray) (m:Int) (w:World) (hs:s.size<4294967281) (hm:w.cell? ⟨0,0,none⟩=some (.int .i64 m)) :
  Calls Tryz.prog 143 #[.string s,.string sub] w fun e w'=>e=.returned (.bool (Lib.contains s.data.toList sub.data.toList))∧w'=w:=Any.strings_Contains lays144 s sub m w hs hm
theorem qlq (n : Int) (h0 : -9223372036854775808 ≤ n) (h1 : n ≤ 9223372036854775807) (w : World) (ht : Lib.TabIs Tryz.prog w "internal/strconv.uint64pow10" .u64 Lib.pow10Tab) :
  Calls Tryz.prog 134 #[.int .i64 n] w fun e w'=>e=.returned (.string ⟨(Lib.itoa n).toArray⟩)∧Bel w w':=(Any.strconv_Itoa laysM171 n h0 h1 w ht).mono fun e w'=>by
 rintro ⟨rfl,k,os,rfl⟩
 refine ⟨rfl,rfl,rfl,rfl,?_,fun k hk=>?_⟩
 ·show w.heap.size≤(w.heap++os).size
  rw [Array.size_append];omega
 ·show (w.heap++os)[k]?=_
  rw [Array.getElem?_append_left hk]
theorem X0c_ok:∀ f args r,X0c f args=some r→CallOk Tryz.prog f args r:=by
 intro f args r h
 unfold X0c at h
 cases hf:clones.contains f with
 | true=>simp [clones] at hf
 | false =>
 rw [hf,cond_false] at h
 cases h1:f==143 with
 | true =>
  rw [h1,cond_true] at h
  have hf':f=143:=by simpa using h1
  subst hf'
  split at h
  case h_2=>cases h
  rename_i s t
  cases hp:contP s t with
  | none=>rw [hp] at h;cases h
  | some b =>
  rw [hp] at h
  injection h with h
  subst h
  unfold contP at hp
  split at hp
  case isFalse=>cases hp
  rename_i hsz
  injection hp with hp
  subst hp
  refine q7m rfl fun w Z Y cargs hG hs hr=>?_
  obtain ⟨u,v,rfl,r1,r2⟩:=args2 hs hr
  rw [qt7 r1,qt7 r2]
  obtain ⟨m,hm⟩:=gw_ml hG
  exact (q88 s t m w hsz hm).mono fun e w' h=>⟨_,h.1,by rw [h.2];exact Bel.refl _,fun _ _=>.c (.bool _)⟩
 | false =>
 rw [h1,cond_false] at h
 cases h2:f==105 with
 | true =>
  rw [h2,cond_true] at h
  have hf':f=105:=by simpa using h2
  subst hf'
  split at h
  case h_2=>cases h
  rename_i s t
  cases hp:cutP s t with
  | none=>rw [hp] at h;cases h
  | some b =>
  rw [hp] at h
  injection h with h
  subst h
  unfold cutP at hp
  split at hp
  case isFalse=>cases hp
  rename_i hsz
  injection hp with hp
  subst hp
  refine q7m rfl fun w Z Y cargs hG hs hr=>?_
  obtain ⟨u,v,rfl,r1,r2⟩:=args2 hs hr
  rw [qt7 r1,qt7 r2]
  obtain ⟨m,hm⟩:=gw_ml hG
  refine (q8f s t m w hsz hm).mono fun e w' h=>?_
  obtain ⟨he,n,rfl⟩:=h
  refine ⟨_,he,(Bel.refl w).drewN n,fun _ _=>.tup _ _ rfl ?_⟩
  intro i u x hu hx
  match i with
  | 0=>simp at hu hx;subst hu;subst hx;exact .c (.str _)
  | 1=>simp at hu hx;subst hu;subst hx;exact .c (.str _)
  | 2=>simp at hu hx;subst hu;subst hx;exact .c (.bool _)
  | i+3=>simp at hu
 | false =>
 rw [h2,cond_false] at h
 cases h3:f==112 with
 | true =>
  rw [h3,cond_true] at h
  have hf':f=112:=by simpa using h3
  subst hf'
  split at h
  case h_2=>cases h
  rename_i s c
  injection h with h
  subst h
  refine q7m rfl fun w Z Y cargs hG hs hr=>?_
  obtain ⟨u,v,rfl,r1,r2⟩:=args2 hs hr
  rw [qt7 r1,qt6 r2]
  exact (qlu s c w).mono fun e w' h=>⟨_,h.1,by rw [h.2];exact Bel.refl _,fun _ _=>.c (.int _ _)⟩
 | false =>
 rw [h3,cond_false] at h
 cases h4:f==164 with
 | true =>
  rw [h4,cond_true] at h
  have hf':f=164:=by simpa using h4
  subst hf'
  split at h
  case h_2=>cases h
  rename_i s t
  cases hp:canyP s t with
  | none=>rw [hp] at h;cases h
  | some b =>
  rw [hp] at h
  injection h with h
  subst h
  unfold canyP at hp
  split at hp
  case isFalse=>cases hp
  rename_i hsz
  injection hp with hp
  subst hp
  have ht:t=⟨#[13,10,0]⟩:=by
   apply ByteArray.ext
   exact Array.toList_inj.1 hsz.2
  subst ht
  refine q7m rfl fun w Z Y cargs hG hs hr=>?_
  obtain ⟨u,v,rfl,r1,r2⟩:=args2 hs hr
  rw [qt7 r1,qt7 r2]
  exact (q7t s w hsz.1).mono fun e w' h=>⟨_,h.1,bel_of h.2,fun _ _=>.c (.bool _)⟩
 | false =>
 rw [h4,cond_false] at h
 cases h5:f==134 with
 | true =>
  rw [h5,cond_true] at h
  have hf':f=134:=by simpa using h5
  subst hf'
  split at h
  case h_2=>cases h
  rename_i n
  cases hp:itoaP n with
  | none=>rw [hp] at h;cases h
  | some b =>
  rw [hp] at h
  injection h with h
  subst h
  unfold itoaP at hp
  split at hp
  case isFalse=>cases hp
  rename_i hsz
  injection hp with hp
  subst hp
  refine q7m rfl fun w Z Y cargs hG hs hr=>?_
  obtain ⟨u,rfl,r1⟩:=args1 hs hr
  rw [qt6 r1]
  exact (qlq n hsz.1 hsz.2 w (gw_pow hG)).mono fun e w' h=>⟨_,h.1,h.2,fun _ _=>.c (.str _)⟩
 | false =>
 rw [h5,cond_false] at h
 cases h
end Go.Proofs.YtokahibbkdbndaaGreatDoor
