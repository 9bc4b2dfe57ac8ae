/- Texts as runes: what is decoded at a byte that is no ASCII byte. -/
import Derived.Test.YtmacbkjehjbjeaaGreatDoorZ27
import Derived.WalkKit
import Derived.Deep.QuietTactic
import Derived.BigQuiet
import Derived.WalkMore
import Derived.Test.YtmacbkjehjbjeaaGreatDoorGB
import Derived.Deep.LoopGhost
import Derived.Lib.SlMapFilter
import Derived.Maps.OwnOps
namespace Go.Proofs.YtmacbkjehjbjeaaGreatDoor
open Go.RowKit
theorem q9q (r:Int) (h:128≤r):∃ l:List UInt8,∃ x:UInt8,Utf8.encode r=⟨(l++[x]).toArray⟩∧128≤x.toNat∧1≤l.length∧l.length≤3:=by
 have hc:128≤(if Utf8.valid r then r.toNat else Utf8.runeError)∧(if Utf8.valid r then r.toNat else Utf8.runeError)<2097152:=by
  split
  ·rename_i hv
   unfold Utf8.valid at hv
   simp at hv
   omega
  ·unfold Utf8.runeError;omega
 unfold Utf8.encode
 simp only
 generalize (if Utf8.valid r then r.toNat else Utf8.runeError)=c at hc
 have hb:∀ n,128≤(UInt8.ofNat (128+n % 64)).toNat:=by
  intro n
  rw [UInt8.toNat_ofNat']
  have:n % 64<64:=Nat.mod_lt _ (by decide)
  omega
 rw [if_neg (by omega)]
 split
 ·exact ⟨[_],_,rfl,hb _,by simp,by simp⟩
 ·split
  ·exact ⟨[_,_],_,rfl,hb _,by simp,by simp⟩
  ·exact ⟨[_,_,_],_,rfl,hb _,by simp,by simp⟩
theorem q90 (s:ByteArray) (i:Nat) (hi:i<s.size) (h:128≤(s[i]'hi).toNat):128≤(Utf8.decode s i).1∧(Utf8.decode s i).1<2147483648∧1≤(Utf8.decode s i).2∧i+(Utf8.decode s i).2≤s.size∧∀ j (hj:j<s.size),i≤j→j<i+(Utf8.decode s i).2→128≤(s[j]'hj).toNat:=by
 have g:∀ j (hj:j<s.size),s.get! j=s[j]'hj:=by
  intro j hj
  simp [ByteArray.get!,getElem!_pos,hj]
  rfl
 have hone:∀ j (hj:j<s.size),i≤j→j<i+1→128≤(s[j]'hj).toNat:=by
  intro j hj h1 h2
  have:j=i:=by omega
  subst this
  exact h
 have hcont:∀ k,(decide (i+k<s.size)&&(s.get! (i+k)).toNat / 64==2)=true→∃ hk:i+k<s.size,128≤(s[i+k]'hk).toNat:=by
  intro k hk
  simp at hk
  refine ⟨hk.1,?_⟩
  have:=hk.2
  rw [g _ hk.1] at this
  omega
 have h0:(s.get! (i+0)).toNat=(s[i]'hi).toNat:=by rw [Nat.add_zero,g i hi]
 have herr:128≤Utf8.runeError∧Utf8.runeError<2147483648:=by unfold Utf8.runeError;omega
 unfold Utf8.decode
 simp only [h0]
 rw [if_neg (by omega)]
 split
 ·rename_i hh
  rw [Bool.and_eq_true] at hh
  obtain ⟨k1,c1⟩:=hcont 1 hh.2
  split
  ·rename_i hc
   refine ⟨hc,?_,by simp,by simp;omega,?_⟩
   ·have:(s[i]'hi).toNat<256:=UInt8.toNat_lt _
    simp only
    have h1:=Nat.mod_lt (s[i]'hi).toNat (show 32>0 by decide)
    have h2:=Nat.mod_lt (s.get! (i+1)).toNat (show 64>0 by decide)
    omega
   ·intro j hj h1 h2
    simp only at h2
    rcases (by omega:j=i∨j=i+1) with rfl|rfl
    ·exact h
    ·exact c1
  ·exact ⟨herr.1,herr.2,by simp,by simp;omega,hone⟩
 ·split
  ·rename_i hh
   rw [Bool.and_eq_true,Bool.and_eq_true] at hh
   obtain ⟨k1,c1⟩:=hcont 1 hh.1.2
   obtain ⟨k2,c2⟩:=hcont 2 hh.2
   split
   ·rename_i hc
    rw [Bool.and_eq_true] at hc
    refine ⟨?_,?_,by simp,by simp;omega,?_⟩
    ·have:=of_decide_eq_true hc.1
     simp only
     omega
    ·simp only
     have h1:=Nat.mod_lt (s[i]'hi).toNat (show 16>0 by decide)
     have h2:=Nat.mod_lt (s.get! (i+1)).toNat (show 64>0 by decide)
     have h3:=Nat.mod_lt (s.get! (i+2)).toNat (show 64>0 by decide)
     omega
    ·intro j hj h1 h2
     simp only at h2
     rcases (by omega:j=i∨j=i+1∨j=i+2) with rfl|rfl|rfl
     ·exact h
     ·exact c1
     ·exact c2
   ·exact ⟨herr.1,herr.2,by simp,by simp;omega,hone⟩
  ·split
   ·rename_i hh
    rw [Bool.and_eq_true,Bool.and_eq_true,Bool.and_eq_true] at hh
    obtain ⟨k1,c1⟩:=hcont 1 hh.1.1.2
    obtain ⟨k2,c2⟩:=hcont 2 hh.1.2
    obtain ⟨k3,c3⟩:=hcont 3 hh.2
    split
    ·rename_i hc
     rw [Bool.and_eq_true] at hc
     refine ⟨?_,?_,by simp,by simp;omega,?_⟩
     ·have:=of_decide_eq_true hc.1
      simp only
      omega
     ·simp only
      have h1:=Nat.mod_lt (s[i]'hi).toNat (show 8>0 by decide)
      have h2:=Nat.mod_lt (s.get! (i+1)).toNat (show 64>0 by decide)
      have h3:=Nat.mod_lt (s.get! (i+2)).toNat (show 64>0 by decide)
      have h4:=Nat.mod_lt (s.get! (i+3)).toNat (show 64>0 by decide)
      omega
     ·intro j hj h1 h2
      simp only at h2
      rcases (by omega:j=i∨j=i+1∨j=i+2∨j=i+3) with rfl|rfl|rfl|rfl
      ·exact h
      ·exact c1
      ·exact c2
      ·exact c3
    ·exact ⟨herr.1,herr.2,by simp,by simp;omega,hone⟩
   ·exact ⟨herr.1,herr.2,by simp,by simp;omega,hone⟩
end Go.Proofs.YtmacbkjehjbjeaaGreatDoor
namespace Go.Proofs.YtmacbkjehjbjeaaGreatDoor
open Go.RowKit
theorem qja (s:ByteArray) (c:Int) (w:World):Calls Tryz.prog 79 #[.string s,.int .u8 c] w fun e w'=>e=.returned (.int .i64 (Lib.indexByte s.data.toList c.toNat.toUInt8))∧w'=w:=Any.strings_IndexByte lays137 s c w
theorem qx3 (r:Int) (w:World):Calls Tryz.prog 221 #[.int .i32 r] w fun e w'=>e=.returned (.bool (Lib.validRune r))∧w'=w:=Any.utf8_ValidRune lays119 r w
theorem q9r (r:Int) (h:128≤r):(∃ a x,Utf8.encode r=⟨#[a,x]⟩∧128≤x.toNat)∨(∃ a b x,Utf8.encode r=⟨#[a,b,x]⟩∧128≤x.toNat)∨∃ a b c x,Utf8.encode r=⟨#[a,b,c,x]⟩∧128≤x.toNat:=by
 obtain ⟨l,x,he,hx,h1,h2⟩:=q9q r h
 match l,h1,h2,he with
 |[a],_,_,he=>exact .inl ⟨a,x,he,hx⟩
 |[a,b],_,_,he=>exact .inr (.inl ⟨a,b,x,he,hx⟩)
 |[a,b,c],_,_,he=>exact .inr (.inr ⟨a,b,c,x,he,hx⟩)
theorem qjb (s:ByteArray) (x:UInt8) (hs:s.data.toList.all (fun b=>decide (b.toNat<128))=true) (hx:128≤x.toNat) (w:World):Calls Tryz.prog 79 #[.string s,.int .u8 (x.toNat:Int)] w fun e w'=>e=.returned (.int .i64 (-1))∧w'=w:=by
 have h:=qja s (x.toNat:Int) w
 have hb:((x.toNat:Int)).toNat.toUInt8=x:=by simp
 have:Lib.indexByte s.data.toList x=-1:=by
  generalize s.data.toList=l at hs
  induction l with
  |nil=>rfl
  |cons b l ih =>
   rw [List.all_cons,Bool.and_eq_true] at hs
   have h1:=of_decide_eq_true hs.1
   have hne:(b==x)=false:=by
    rw [beq_eq_false_iff_ne]
    intro e
    subst e
    omega
   rw [Lib.indexByte,hne,ih hs.2]
   rfl
 rw [hb,this] at h
 exact h
theorem below_drewN' (w:World) (n:Nat):Below w.heap.size w (w.drewN n):=⟨rfl,rfl,rfl,Nat.le_refl _,fun _ _=>rfl⟩
theorem q68 (w:World) (o:Obj):Below w.heap.size w (w.alloc o):=(Below.refl _ w).alloc (Nat.le_refl _) o
set_option maxHeartbeats 4000000 in
set_option maxRecDepth 100000 in
theorem qjd (r:Int) (h:128≤r) (w:World):Calls Tryz.prog 201 #[.string ⟨#[13,10,0]⟩,.int .i32 r] w fun e w'=>e=.returned (.int .i64 (-1))∧Below w.heap.size w w':=by
 have h0:(0:Int)≤r:=by omega
 have h1:¬ r<128:=by omega
 go_enter Tryz.func201,Tryz.ntmps201
 go_wp2_with (first
  |(go_at_call 221;refine (qx3 r _).mono ?_;rintro e w2 ⟨rfl,rfl⟩)
  |go_in)
 ·-- the rune of an error: none of the three
  have n0:=fun ty=>run_next_ascii (P:=Tryz.prog) w ⟨#[13,10,0]⟩ 0 ty (by decide) (by decide)
  have n1:=fun ty=>run_next_ascii (P:=Tryz.prog) w ⟨#[13,10,0]⟩ 1 ty (by decide) (by decide)
  have n2:=fun ty=>run_next_ascii (P:=Tryz.prog) w ⟨#[13,10,0]⟩ 2 ty (by decide) (by decide)
  have n3:=fun ty=>run_next_end (P:=Tryz.prog) w ⟨#[13,10,0]⟩ 3 ty (by decide)
  refine wp_loop_rounds 4 ?_
  rw [rounds_succ]
  go_wp2
  rw [rounds_succ]
  go_wp2
  rw [rounds_succ]
  go_wp2
  rw [rounds_succ]
  go_wp2
  go_ret
  exact ⟨rfl,q68 _ _⟩
 ·go_ret
  exact ⟨rfl,Below.refl _ _⟩
 ·rcases q9r r h with ⟨a,x,he,hx⟩|⟨a,b,x,he,hx⟩|⟨a,b,c,x,he,hx⟩
  ·have d1:((10:Int) != (x.toNat:Int))=true:=by rw [bne_iff_ne];omega
   have d2:((0:Int) != (x.toNat:Int))=true:=by rw [bne_iff_ne];omega
   go_step3
   go_wp2
   refine wp_loop_rounds 1 ?_
   rw [rounds_succ]
   go_wp2
   go_step3
   go_wp2
   go_quiet (fail)
   go_wp2
   go_quiet ((go_at_call 79;exact (qjb _ x (by decide) hx _).mono fun _ _ h=>⟨h.1,_,h.2⟩))
   go_wp2
   ·simp only [Exit.noGoto,Exit.inBlock,Exit.then]
    go_ret
    exact ⟨rfl,below_drewN' _ _⟩
   ·exfalso
    have hh:((10:Int) != (x.toNat:Int))=false:=by assumption
    exact absurd (d1.symm.trans hh) (by decide)
  ·have d1:((10:Int) != (x.toNat:Int))=true:=by rw [bne_iff_ne];omega
   have d2:((0:Int) != (x.toNat:Int))=true:=by rw [bne_iff_ne];omega
   go_step3
   go_wp2
   refine wp_loop_rounds 1 ?_
   rw [rounds_succ]
   go_wp2
   go_step3
   go_wp2
   go_quiet (fail)
   go_wp2
   go_quiet ((go_at_call 79;exact (qjb _ x (by decide) hx _).mono fun _ _ h=>⟨h.1,_,h.2⟩))
   go_wp2
   ·simp only [Exit.noGoto,Exit.inBlock,Exit.then]
    go_ret
    exact ⟨rfl,below_drewN' _ _⟩
   ·exfalso
    have hh:((0:Int) != (x.toNat:Int))=false:=by assumption
    exact absurd (d2.symm.trans hh) (by decide)
  ·go_step3
   go_wp2
   refine wp_loop_rounds 1 ?_
   rw [rounds_succ]
   go_wp2
   rw [Exit.noGoto_ret]
   go_ret
   exact ⟨rfl,Below.refl _ _⟩
end Go.Proofs.YtmacbkjehjbjeaaGreatDoor
namespace Go.Proofs.YtmacbkjehjbjeaaGreatDoor
open Go.RowKit Go.ChangeMaps
theorem qpm {P:Program} (W:World) (r:Nat) (s:ByteArray) (pos:Nat) (h:W.heap[r]?=some (.stringIter s pos)) (hp:pos<s.size) (ty:TypeId) :
  (Instr.next (.pointer (some ⟨r,0,none⟩)) true ty).run P W=.ok (.tuple #[.bool true,.int .i64 pos,.int .i32 (Utf8.decode s pos).1]) (setBlock W r (.stringIter s (pos+(Utf8.decode s pos).2))):=by
 simp [Instr.next,getObj,setObj,Sem.run,h,hp,Result.andThen,goInt,setBlock]
theorem qpn {P:Program} (W:World) (r:Nat) (s:ByteArray) (pos:Nat) (h:W.heap[r]?=some (.stringIter s pos)) (hp:¬ pos<s.size) (ty:TypeId) :
  (Instr.next (.pointer (some ⟨r,0,none⟩)) true ty).run P W=.ok (.tuple #[.bool false]) W:=by
 simp [Instr.next,getObj,Sem.run,h,hp]
theorem qjc (s:ByteArray) (r:Int) (w:World) (h0:0≤r) (h1:r<128):Calls Tryz.prog 201 #[.string s,.int .i32 r] w fun e w'=>e=.returned (.int .i64 (Lib.indexByte s.data.toList r.toNat.toUInt8))∧w'=w:=Any.strings_IndexRune_ascii lays152 s r w h0 h1
theorem qi4 (s chars:ByteArray) (w:World) (h2:2≤chars.size) (h8:8<s.size) (hs:s.size<4294967281) (hcs:chars.size<4294967281) (hascii:∀ (j:Nat) b,chars.data.toList[j]?=some b→b.toNat<128) :
  Calls Tryz.prog 181 #[.string s,.string chars] w fun e w'=>e=.returned (.int .i64 (Lib.indexAny s.data.toList chars.data.toList))∧Below w.heap.size w w':=by
 refine (Any.strings_IndexAny_long lays153 (fun w=>by kernel_rfl) (by kernel_rfl) s chars w h2 h8 hs hcs hascii).mono fun e w'=>?_
 rintro ⟨rfl,rfl⟩
 exact ⟨rfl,((Below.refl _ _).alloc (Nat.le_refl _) _).alloc (by simp) _⟩
theorem qsq (n:Int) (w:World):Calls Tryz.prog 202 #[.int .i64 n] w fun e w'=>e=.returned (.bool (decide (8<n)))∧w'=w:=Any.strings_shouldUseASCIISet { lays153 with } n w
theorem qmp {s:ByteArray} {i k:Nat} (h:Lib.NoAny s.data.toList crlf0 i) (hk:∀ j (hj:j<s.size),i≤j→j<k→crlf0.contains (s[j]'hj)=false):Lib.NoAny s.data.toList crlf0 k:=fun j b hj hb=>by
 by_cases e:j<i
 ·exact h j b e hb
 ·obtain ⟨hj2,hb2⟩:=List.getElem?_eq_some_iff.1 hb
  have hj3:j<s.size:=by rw [Array.length_toList] at hj2;exact hj2
  have:=hk j hj3 (by omega) hj
  rw [←hb2]
  exact this
theorem q8l (b:UInt8) (h:128≤b.toNat):crlf0.contains b=false:=by
 unfold crlf0
 have h1:b≠13:=fun e=>by subst e;revert h;decide
 have h2:b≠10:=fun e=>by subst e;revert h;decide
 have h3:b≠0:=fun e=>by subst e;revert h;decide
 simp [h1,h2,h3]
theorem q6a {B:Nat} {a w:World} (h:Below B a w) {r:Nat} (hr:B≤r) (o:Obj):Below B a (setBlock w r o) :=
 ⟨h.os,h.tape,h.output,by simp only [setBlock,Array.size_setIfInBounds];exact h.size,fun k hk=>by
  simp only [setBlock]
  rw [Array.getElem?_setIfInBounds_ne (by omega)]
  exact h.block k hk⟩
set_option maxHeartbeats 8000000 in
set_option maxRecDepth 1000000 in
theorem qi5 (s:ByteArray) (w:World) (h8:s.size≤8) :
  Calls Tryz.prog 181 #[.string s,.string ⟨#[13,10,0]⟩] w fun e w'=>e=.returned (.int .i64 (Lib.indexAny s.data.toList crlf0))∧Below w.heap.size w w':=by
 have h8z:decide ((8:Int)<(s.size:Int))=false:=decide_eq_false (by omega)
 have hb0:Below w.heap.size w (w.iter s 0):=q68 _ _
 have hi0:=World.iter_heap w s 0
 go_enter Tryz.func181,Tryz.ntmps181
 go_wp2_with (go_at_call 202;refine (qsq _ _).mono ?_;rintro e w' ⟨rfl,hw⟩;rw [hw,h8z])
 go_loopg [9,10] s.size (fun g _ _ wx=>∃ i:Nat,i+g=s.size∧wx.heap[w.heap.size]?=some (.stringIter s i)∧Below w.heap.size w wx∧Lib.NoAny s.data.toList crlf0 i)
 case atStart=>exact ⟨0,by omega,hi0,hb0,Lib.NoAny.zero _ _⟩
 case round =>
  obtain ⟨i,hig,hit,hbel,hno⟩:=hrel
  cases gk with
  |zero =>
   obtain rfl:i=s.size:=by omega
   have hnx:=qpn (P:=Tryz.prog) wr w.heap.size s s.size hit (by omega)
   have hnone:Lib.indexAny s.data.toList crlf0=-1:=Lib.indexAny_none (by rw [Array.length_toList];exact hno)
   go_wp2
   go_ret
   exact ⟨by rw [hnone];rfl,hbel⟩
  |succ g =>
   have hi:i<s.size:=by omega
   have hnx:=qpm (P:=Tryz.prog) wr w.heap.size s i hit hi
   have hlt:=(Array.getElem?_eq_some_iff.1 hit).1
   by_cases hx:(s[i]'hi).toNat<128
   ·rw [decode_ascii s i hi hx] at hnx
    simp only at hnx
    have hset:(setBlock wr w.heap.size (.stringIter s (i+1))).heap[w.heap.size]?=some (.stringIter s (i+1)):=by
     simp only [setBlock]
     rw [Array.getElem?_setIfInBounds_self_of_lt hlt]
    have hb1:=q6a hbel (Nat.le_refl _) (.stringIter s (i+1))
    obtain ⟨x,hxe⟩:∃ x:UInt8,s[i]'hi=x:=⟨_,rfl⟩
    rw [hxe] at hnx hx
    have hxl:s.data.toList[i]?=some x:=by rw [←hxe];exact Lib.data_getElem? s i hi
    have hcon:=Lib.contains_iff_indexByte crlf0 x
    have hback:((x.toNat:Int)).toNat.toUInt8=x:=by simp
    have hr:=fun W=>qjc ⟨#[13,10,0]⟩ (x.toNat:Int) W (by omega) (by omega)
    rw [hback] at hr
    have hcd:(⟨#[13,10,0]⟩:ByteArray).data.toList=crlf0:=rfl
    rw [hcd] at hr
    cases hin:crlf0.contains x with
    |false =>
     rw [hin] at hcon
     have hlt0:¬ ((0:Int)≤Lib.indexByte crlf0 x):=of_decide_eq_false hcon.symm
     have hno1:Lib.NoAny s.data.toList crlf0 (i+1):=hno.succ hxl hin
     clear hcon
     go_wp2_with (first
      |(go_at_call 201;refine (hr _).mono ?_;rintro e w' ⟨rfl,rfl⟩)
      |go_in)
     go_roundg g
     case measure=>omega
     case rel=>exact ⟨i+1,by omega,hset,hb1,hno1⟩
    |true =>
     rw [hin] at hcon
     have hge0:(0:Int)≤Lib.indexByte crlf0 x:=of_decide_eq_true hcon.symm
     have hhit:Lib.indexAny s.data.toList crlf0=i:=Lib.indexAny_hit hno hxl hin
     clear hcon
     go_wp2_with (first
      |(go_at_call 201;refine (hr _).mono ?_;rintro e w' ⟨rfl,rfl⟩)
      |go_in)
     go_ret
     exact ⟨by rw [hhit];rfl,hb1⟩
   ·obtain ⟨d1,d2,d3,d4,d5⟩:=q90 s i hi (by omega)
    have hno1:Lib.NoAny s.data.toList crlf0 (i+(Utf8.decode s i).2):=qmp hno (fun j hj h1 h2=>q8l _ (d5 j hj h1 h2))
    generalize (Utf8.decode s i).1=c at hnx d1 d2
    generalize (Utf8.decode s i).2=k at hnx d3 d4 d5 hno1
    have hset:(setBlock wr w.heap.size (.stringIter s (i+k))).heap[w.heap.size]?=some (.stringIter s (i+k)):=by
     simp only [setBlock]
     rw [Array.getElem?_setIfInBounds_self_of_lt hlt]
    have hb1:=q6a hbel (Nat.le_refl _) (.stringIter s (i+k))
    have hsz1:w.heap.size<(setBlock wr w.heap.size (.stringIter s (i+k))).heap.size:=by simp only [setBlock,Array.size_setIfInBounds];exact hlt
    have hr:=fun W=>qjd (c:Int) (by omega) W
    go_wp2_with (first
     |(go_at_call 201;refine (hr _).mono ?_;rintro e w' ⟨rfl,hbw⟩)
     |go_in)
    go_roundg (s.size - (i+k))
    case measure=>omega
    case rel=>exact ⟨i+k,by omega,by rw [hbw.block _ hsz1];exact hset,hb1.trans (hbw.mono (by omega)),hno1⟩
end Go.Proofs.YtmacbkjehjbjeaaGreatDoor
namespace Go.Proofs.YtmacbkjehjbjeaaGreatDoor
open Go.RowKit Go.Maps
def digL (l:List UInt8):Bool:=match l with
 |b::_=>decide (48≤b.toNat)&&decide (b.toNat≤57)
 |[]=>false
def pdL (k:Lit) (_:DataW Unit):Bool:=match k with
 |.string l=>digL l
 |_=>false
theorem q186 (l:List (ByteArray×ByteArray)):Lib.deleteFuncD pdL (datM l)=datM (l.filter fun p=>!digP p.1):=by
 unfold datM Lib.deleteFuncD
 simp only
 congr 1
 induction l with
 |nil=>rfl
 |cons p l ih =>
  rw [List.map_cons,List.filter_cons,List.filter_cons]
  have:(!pdL (litM p).1 (litM p).2)=!digP p.1:=rfl
  rw [this]
  cases !digP p.1 with
  |true=>simp [ih]
  |false=>simpa using ih
theorem q18j (w:World) (row:Option Nat):w.grownBy w row:=⟨rfl,rfl,rfl,Nat.le_refl _,fun _ _ _=>rfl⟩
theorem q17z (k:ByteArray) (h:0<k.size):digP k=(decide ((48:Int)≤(k[0].toNat:Int))&&decide ((k[0].toNat:Int)≤57)):=by
 obtain ⟨⟨l⟩⟩:=k
 cases l with
 |nil=>cases h
 |cons b l =>
  show (decide (48≤b.toNat)&&decide (b.toNat≤57))=(decide ((48:Int)≤(b.toNat:Int))&&decide ((b.toNat:Int)≤57))
  rw [Bool.eq_iff_iff]
  simp
  omega
set_option maxRecDepth 100000 in
theorem q180 (k v:ByteArray) (hk:k.size≠0) (w:World):Calls Tryz.prog 170 #[.string k,.string v] w fun e w'=>e=.returned (.bool (digP k))∧w.grownBy w' none:=by
 have hp:=q17z k (by omega)
 go_enter Tryz.func170,Tryz.ntmps170
 go_wp2
 ·go_ret
  refine ⟨?_,q18j _ _⟩
  first|rw [hp]|skip
  rename_i h
  simp [h]
 ·go_ret
  refine ⟨?_,q18j _ _⟩
  first|rw [hp]|skip
  rename_i h
  have:decide ((48:Int)≤(k[0].toNat:Int))=false:=decide_eq_false (by omega)
  rw [this]
  rfl
set_option maxRecDepth 100000 in
theorem RM_inv {v:Value} {y:DataW Unit×List MemPlace} (h:RM Tryz.prog 9 v=some y):∃ s,v=.string s:=by
 unfold RM plainElem at h
 rw [Tryz.underlying9] at h
 cases v <;> simp at h
 exact ⟨_,rfl⟩
set_option maxHeartbeats 4000000 in
set_option maxRecDepth 100000 in
theorem q17y (b n:Nat) (l:List (ByteArray×ByteArray)) (w:World) (hown:w.ownsMap Tryz.prog 9 (RM Tryz.prog 9) b n (datM l)) (hne:∀ p∈l,p.1.size≠0) :
  Calls Tryz.prog 169 #[.map (some b),.func (.func 170) #[] #[]] w fun e w'=>e=.returned (.tuple #[])∧w'.ownsMap Tryz.prog 9 (RM Tryz.prog 9) b n (datM (l.filter fun p=>!digP p.1))∧w.grownBy w' (some b):=by
 have K:=Maps.string_keyed Tryz.underlying9
 have hu:Tryz.prog.underlying 141=some (.map 9 9):=Tryz.underlying141
 obtain ⟨es0,hes,hap,hkeys⟩:=hown.entries K
 have hes':l.map litM=es0:=by unfold datM at hes;injection hes
 have hcalls:=q180
 have hfin:=q186 l
 rw [hes] at hown hfin
 have hin:∀ (k:ByteArray),Maps.has (.map es0) (.string k.data.toList)=true→k.size≠0:=by
  intro k hk
  rw [Maps.has_eq,List.any_eq_true] at hk
  obtain ⟨p,hp,hs⟩:=hk
  rw [←hes',List.mem_map] at hp
  obtain ⟨q,hq,rfl⟩:=hp
  have h0:=hne q hq
  have e:q.1.data.toList=k.data.toList:=by simpa [litM,Lit.sameKey] using hs
  have e2:q.1.data.toList.length=q.1.size:=by rw [Array.length_toList];rfl
  have e3:k.data.toList.length=k.size:=by rw [Array.length_toList];rfl
  rw [←e3,←e,e2]
  exact h0
 rw [←hfin]
 clear hfin
 go_enter Tryz.func169,Tryz.ntmps169
 go_wp2_with (first
  |(at_range;refine wpList_range_own _ rfl _ 141 rfl 9 9 K hu _ b n _ rfl hown ?_;intro w0 hrg0 hg0 hs0)
  |go_in)
 go_frame
 go_loopw [8] (fun _ wr=>∃ (left:Lit→Bool) (cnt:Nat),wr.ranges Tryz.prog 9 (RM Tryz.prog 9) b w.heap.size n (Fk pdL es0 left) left cnt∧w.grownBy wr (some b)∧∀ kl,left kl=true→Maps.has (.map es0) kl=true)
  (fun _ wr=>wr.rangeLeft b w.heap.size)
 case atStart=>exact ⟨_,_,by rw [Fk_start hkeys];exact hrg0,hg0.but _,fun _ h=>h⟩
 case round =>
  obtain ⟨left,cnt,hrg,hgw,hlf⟩:=hrel
  go_wp2_with (first
   |(at_next;refine wpList_next_ranges _ rfl _ rfl 9 K (RM Tryz.prog 9) Value.string Value.string (fun key kl h=>by obtain ⟨s,e,_⟩:=(qjf Tryz.underlying9 _ _).1 h;exact ⟨s,e⟩) (fun v y h=>RM_inv h) b w.heap.size n _ _ _ rfl hrg ?_ ?_)
   |go_in)
  ·intro _ hl0
   go_wp2
   go_end0
   exact ⟨rfl,by rw [←Fk_end hl0];exact hrg.owns,hgw⟩
  ·intro k v kl yd yp w1 cnt1 hkey hlx hv hat hrg1 hlt hg1 hs1 hen
   have hgw1:=hgw.andThen hg1 (fun j hj=>by cases hj;exact Or.inl (Nat.le_refl _))
   obtain ⟨k',ek,hks,rfl⟩:=(qjf Tryz.underlying9 _ _).1 hkey
   cases ek
   have hk0:=hin k (hlf _ hlx)
   have hc:=hcalls k v hk0 w1
   have hbl:=hrg1.owns.lt
   have hrl:=hrg1.lt
   have hpe:pdL (.string k.data.toList) yd=digP k:=rfl
   cases hp:digP k <;> rw [hp] at hc hpe
   ·go_wp2_with (first
     |(go_at_call 170;refine hc.mono ?_;rintro e w2 ⟨rfl,hg2⟩)
     |go_in)
    have hrg2:=hrg1.kept hg2 (by simp) (by simp)
    go_roundw
    case rel=>exact ⟨_,cnt1,by rw [←Fk_stays hap (kl:=.string k.data.toList) trivial hlx hpe hat];exact hrg2,hgw1.andThen hg2 (fun j hj=>by cases hj),fun z hz=>hlf z (by simp at hz;exact hz.1)⟩
    case measure=>rw [hrg2.left_eq,hrg.left_eq];exact hlt
   ·go_wp2_with (first
     |(go_at_call 170;refine hc.mono ?_;rintro e w2 ⟨rfl,hg2⟩;have hrg2:=hrg1.kept hg2 (by simp) (by simp))
     |(at_delete;refine wpList_delete_ranges _ rfl _ _ 141 9 rfl 9 K hu (RM Tryz.prog 9) b w.heap.size n _ _ _ rfl hrg2 _ _ rfl hkey ?_;intro w3 cnt3 hrg3 hle hturn;go_frame)
     |go_in)
    rw [strike_twice] at hrg3
    go_roundw
    case rel=>exact ⟨_,cnt3,by rw [←Fk_struck hap (kl:=.string k.data.toList) trivial hlx hpe hat];exact hrg3,(hgw1.andThen hg2 (fun j hj=>by cases hj)).andThen hturn.grown (fun j hj=>by cases hj;exact Or.inr rfl),fun z hz=>hlf z (by simp at hz;exact hz.1)⟩
    case measure=>rw [hrg3.left_eq,hrg.left_eq];omega
theorem q8o (s sep:ByteArray) (m:Int) (w:World) (hs:s.size<4294967281) (hm:w.cell? ⟨0,0,none⟩=some (.int .i64 m)) :
  Calls Tryz.prog 89 #[.string s,.string sep] w fun e w'=>e=.returned (.tuple #[.string ⟨(Lib.cut s.data.toList sep.data.toList).1.toArray⟩,.string ⟨(Lib.cut s.data.toList sep.data.toList).2.1.toArray⟩,.bool (Lib.cut s.data.toList sep.data.toList).2.2])∧∃ n,w'=w.drewN n:=Any.strings_Cut lays145 s sep m w hs hm
theorem q1af (B b:Nat) (bs:List Value) (s:ByteArray) (w:World) (h:Lib.IsBuilder 172 5 B b bs w) (hlen:bs.length+s.size≤140737488355328) (hBw:B≤w.heap.size) :
  Calls Tryz.prog 106 #[.pointer (some ⟨b,0,none⟩),.string s] w fun e w'=>e=.returned (.tuple #[.int .i64 s.size,.nilIface])∧(Lib.BuilderAt 172 5 B b (.pointer (some ⟨b,0,none⟩)) (bs++Lib.strCells s) w'∧Below B w w'):=Any.Builder_WriteString lays166 q173 B b bs s w h hlen hBw
theorem q17f (B b:Nat) (l:List UInt8) (w:World) (h:Lib.IsBuilder 172 5 B b (Lib.byteCells l) w) (hBw:B≤w.heap.size) :
  Calls Tryz.prog 107 #[.pointer (some ⟨b,0,none⟩)] w fun e w'=>e=.returned (.string ⟨l.toArray⟩)∧Below B w w':=Any.Builder_String_any lays169 q174 B b l w h hBw
theorem q177 (k:List UInt8):∀ l:List (ByteArray×ByteArray),(datM l).atKey (.string k) (.lit (.string []))=.lit (.string (getM l k)):=by
 intro l
 unfold datM DataW.atKey getM
 simp only
 induction l with
 |nil=>rfl
 |cons p l ih =>
  rw [List.map_cons,List.find?_cons,List.find?_cons]
  have:(litM p).1.sameKey (.string k)=(p.1.data.toList==k):=rfl
  simp only [this]
  cases p.1.data.toList==k with
  |true=>rfl
  |false=>exact ih
theorem q1ae {P:Program} (w:World) {ops:Array Oper} {rest:List Oper} {o:Oper} {a:Act} {Q:Exit→Act→World→Prop}
  (hg:o.guard=none) (m x:Operand) (t:TypeId) (hop:o.op=Op.lookup t m x false) (k:TypeId) (ht:P.underlying t=some (.map k k)) (he:P.underlying k=some .string) (hz:(zeroValue k).run P w=.ok (.string ⟨#[]⟩) w) (b n:Nat) (l:List (ByteArray×ByteArray))
  (hm:a.eval m=.map (some b)) (hown:w.ownsMap P k (RM P k) b n (datM l)) (key:ByteArray) (hx:a.eval x=.string key) (hks:key.size≤maxLen)
  (hK:wpList P ops Q rest (a.put o.dst (.string ⟨(getM l key.data.toList).toArray⟩)) w):wpList P ops Q (o::rest) a w:=by
 refine wpList_plain hg fun K' hK'=>?_
 obtain ⟨v,ps,hrun,hv⟩:=hown.lookup (t:=t) (e:=k) (Maps.string_keyed he) ht hz (zd:=.lit (.string [])) (zp:=[]) (plainElem_string he (s:=⟨#[]⟩) (Nat.zero_le _)) (key:=.string key) (kl:=.string key.data.toList) ((qjf he _ _).2 ⟨key,rfl,hks,rfl⟩)
 rw [q177] at hv
 have hv2:v=.string ⟨(getM l key.data.toList).toArray⟩:=by
  unfold RM plainElem at hv
  rw [he] at hv
  cases v <;> simp at hv
  rename_i s
  have e:=hv.2.1
  rw [←e,Array.toArray_toList]
 subst hv2
 unfold Oper.wp
 simp [execOp,hop,hm,hx,hrun,Result.andThen]
 exact hK' _ _ hK
theorem q19f {P:Program} {k:TypeId} {b n:Nat} {D:DataW Unit} {w w':World} (h:w.ownsMap P k (RM P k) b n D) (e:w'.heap[b]?=w.heap[b]?):w'.ownsMap P k (RM P k) b n D:=by
 obtain ⟨es,clock,hb,r⟩:=h
 exact ⟨es,clock,by rw [e];exact hb,r⟩
theorem q17u (s:List UInt8) (sep:List UInt8) (h:(Lib.cut s sep).2.2=true):(Lib.cut s sep).2.1.length+sep.length≤s.length:=by
 unfold Lib.cut at *
 split at h
 ·rename_i h0
  rw [if_pos h0]
  have:=Lib.index_room s sep h0
  simp only [List.length_drop]
  omega
 ·cases h
theorem q17v (s:List UInt8) (sep:List UInt8):(Lib.cut s sep).2.1.length≤s.length∧(Lib.cut s sep).1.length≤s.length:=by
 unfold Lib.cut
 split
 ·simp;omega
 ·simp
theorem q17m (w:World) (n:Nat) (a:Addr):(w.drewN n).cell? a=w.cell? a:=rfl
theorem q17g (out a b:List UInt8):Lib.byteCells out++Lib.strCells (⟨a.toArray⟩++⟨b.toArray⟩)=Lib.byteCells (out++(a++b)):=by
 have:(⟨a.toArray⟩++⟨b.toArray⟩:ByteArray)=⟨(a++b).toArray⟩:=by
  apply ByteArray.ext
  simp
 rw [this]
 show Lib.byteCells out++Lib.byteCells (a++b)=_
 simp [Lib.byteCells]
theorem q18n {T e:TypeId} {B b:Nat} {bs:List Value} {w:World} (h:Lib.IsBuilder T e B b bs w) (n:Nat):Lib.IsBuilder T e B b bs (w.drewN n):=h
theorem q18m {T e:TypeId} {w:World} {_P:Program}:Lib.IsBuilder T e w.heap.size w.heap.size (Lib.byteCells []) (w.alloc (Obj.cells #[Value.pointer none,Value.slice none 0 0] T)):=by
 refine .inl ⟨Nat.le_refl _,.slice none 0 0,(MapKept.heap_alloc w _).1,World.ownsRow_nil _ _ _ _,?_⟩
 simp [Value.ownBlock]
theorem q69 {B:Nat} {a w:World} (h:Below B a w) (n:Nat):Below B a (w.drewN n):=⟨h.os,h.tape,h.output,h.size,h.block⟩
theorem q17c (w:World) (o:Obj):Below w.heap.size w (w.alloc o):=(Below.refl _ w).alloc (Nat.le_refl _) o
theorem q1a8 (r:List UInt8):(⟨r.toArray⟩:ByteArray).extract 0 (min (r.length:Int) 4000).toNat=⟨(r.take 4000).toArray⟩:=by
 have e:(min (r.length:Int) 4000).toNat=min r.length 4000:=by omega
 rw [e]
 apply ByteArray.ext
 rw [ByteArray.data_extract]
 simp
 omega
set_option maxHeartbeats 4000000 in
set_option maxRecDepth 100000 in
theorem q185 (g b n:Nat) (m:Int) (l:List (ByteArray×ByteArray)) (s:ByteArray) (w:World) (r:List UInt8) (hs:s.size<4294967281) (hm:w.cell? ⟨0,0,none⟩=some (.int .i64 m)) (hg:w.cell? ⟨g,6,none⟩=some (.map (some b)))
  (hown:w.ownsMap Tryz.prog 9 (RM Tryz.prog 9) b n (datM l)) (h:expF l (s.size+1) s.data.toList []=some r) :
  Calls Tryz.prog 120 #[.pointer (some ⟨g,0,none⟩),.string s] w fun e w'=>e=.returned (.string ⟨(r.take 4000).toArray⟩)∧Below w.heap.size w w':=by
 have hu:Tryz.prog.underlying 141=some (.map 9 9):=Tryz.underlying141
 have hbel0:=Below.refl w.heap.size w
 go_enter Tryz.func120,Tryz.ntmps120
 go_wp2
 go_loopw [1] (fun u1 wr=>∃ (sb:ByteArray) (out:List UInt8) (k:Nat),u1=.string sb∧sb.size<4294967281∧Lib.IsBuilder 172 5 w.heap.size w.heap.size (Lib.byteCells out) wr∧Below w.heap.size w wr∧w.heap.size≤wr.heap.size∧expF l k sb.data.toList out=some r)
  (fun u1 _=>(strV u1).size)
 case atStart =>
  refine ⟨s,[],s.size+1,rfl,hs,?_,?_,?_,h⟩
  ·exact q18m (_P:=Tryz.prog)
  ·exact q17c _ _
  ·exact (q17c _ _).size
 case round =>
  obtain ⟨sb,out,k,rfl,hsb,hB,hbel,hsz,hexp⟩:=hrel
  cases k with
  |zero=>cases hexp
  |succ k =>
  have hmw:wr.cell? ⟨0,0,none⟩=some (.int .i64 m):=by rw [hbel.cell (q7s hm)];exact hm
  have hgw:wr.cell? ⟨g,6,none⟩=some (.map (some b)):=by rw [hbel.cell (q7s hg)];exact hg
  have how:wr.ownsMap Tryz.prog 9 (RM Tryz.prog 9) b n (datM l):=q19f hown (hbel.block b hown.lt)
  rw [expF] at hexp
  rcases e1:Lib.cut sb.data.toList [36,123] with ⟨a1,r1,k1⟩
  have q1:=q17v sb.data.toList [36,123]
  have q2:=q17u sb.data.toList [36,123]
  rw [e1] at hexp q1 q2
  simp only at hexp q1 q2
  rcases e2:Lib.cut r1 [125] with ⟨a2,r2,k2⟩
  have q3:=q17v r1 [125]
  have q4:=q17u r1 [125]
  rw [e2] at hexp q3 q4
  simp only at hexp q3 q4
  have hsl:sb.data.toList.length=sb.size:=by rw [Array.length_toList];rfl
  rw [hsl] at q1 q2
  have hr1:(⟨r1.toArray⟩:ByteArray).size<4294967281:=by show r1.toArray.size<_;rw [List.size_toArray];omega
  have hm1:∀ n,(wr.drewN n).cell? ⟨0,0,none⟩=some (.int .i64 m):=fun n=>(q17m wr n _).trans hmw
  have how2:∀ n1,(wr.drewN n1).ownsMap Tryz.prog 9 (RM Tryz.prog 9) b n (datM l):=fun n1=>q19f how rfl
  have hB2:∀ n1,Lib.IsBuilder 172 5 w.heap.size w.heap.size (Lib.byteCells out) (wr.drewN n1):=fun n1=>q18n hB n1
  have hsz2:∀ n1,w.heap.size≤(wr.drewN n1).heap.size:=fun _=>hsz
  have hg2:∀ n1,(wr.drewN n1).cell? ⟨g,6,none⟩=some (.map (some b)):=fun _=>hgw
  have hb2:∀ n1,Below w.heap.size w (wr.drewN n1):=fun n1=>q69 hbel n1
  have hbl0:(Lib.byteCells out).length=out.length:=by simp [Lib.byteCells]
  have e1':Lib.cut sb.data.toList (⟨#[36,123]⟩:ByteArray).data.toList=(a1,r1,k1):=e1
  have e2':Lib.cut (⟨r1.toArray⟩:ByteArray).data.toList (⟨#[125]⟩:ByteArray).data.toList=(a2,r2,k2):=e2
  by_cases hgo:k1=true∧k2=true
  ·obtain ⟨rfl,rfl⟩:=hgo
   rw [if_neg (by simp)] at hexp
   split at hexp
   case isFalse=>cases hexp
   rename_i hlen
   have hlen':(Lib.byteCells out).length+(⟨a1.toArray⟩++⟨(getM l a2).toArray⟩:ByteArray).size≤140737488355328:=by
    rw [hbl0,ByteArray.size_append]
    show out.length+(a1.toArray.size+(getM l a2).toArray.size)≤_
    rw [List.size_toArray,List.size_toArray]
    exact hlen
   go_wp2_with (first
    |(go_at_call 89;refine (q8o _ _ m _ (by first|with_reducible exact hsb|with_reducible exact hr1) (by first|with_reducible exact hmw|with_reducible exact hm1 _)).mono ?_;rintro e w2 ⟨rfl,n1,rfl⟩;simp only [e1',e2'])
    |(at_lookup;refine q1ae _ rfl _ _ 141 rfl 9 hu Tryz.underlying9 (Tryz.zeroValue9 _) b n l rfl (how2 _) ⟨a2.toArray⟩ rfl (by show a2.toArray.size≤_;rw [List.size_toArray];unfold maxLen;omega) ?_)
    |(go_at_call 106;refine (q1af w.heap.size w.heap.size (Lib.byteCells out) _ _ (hB2 _) hlen' (hsz2 _)).mono ?_;rintro e w4 ⟨rfl,hBA,hbl⟩)
    |go_in)
   go_roundw
   case rel=>exact ⟨⟨r2.toArray⟩,out++(a1++getM l a2),k,rfl,by show r2.toArray.size<_;rw [List.size_toArray];omega,by rw [←q17g];exact .inr hBA,(hb2 _).trans hbl,Nat.le_trans hsz hbl.size,hexp⟩
   case measure =>
    have z1:=q2 trivial
    have z2:=q4 trivial
    show r2.toArray.size<sb.size
    rw [List.size_toArray]
    simp only [List.length_cons,List.length_nil] at z1 z2
    omega
  ·have hstop:k1=false∨k2=false:=by
    cases k1 <;> cases k2 <;> simp at hgo ⊢
   rw [if_pos hstop] at hexp
   split at hexp
   case isFalse=>cases hexp
   rename_i hlen
   injection hexp with hexp
   have hlen':(Lib.byteCells out).length+sb.size≤140737488355328:=by rw [hbl0,←hsl];exact hlen
   have hap:Lib.byteCells out++Lib.strCells sb=Lib.byteCells (out++sb.data.toList):=by
    show Lib.byteCells out++Lib.byteCells sb.data.toList=_
    simp [Lib.byteCells]
   have hfin:(⟨r.toArray⟩:ByteArray).extract 0 (min (r.length:Int) 4000).toNat=⟨(r.take 4000).toArray⟩:=q1a8 r
   rcases hstop with rfl|rfl
   ·go_wp2_with (first
     |(go_at_call 89;refine (q8o _ _ m _ (by first|with_reducible exact hsb|with_reducible exact hr1) (by first|with_reducible exact hmw|with_reducible exact hm1 _)).mono ?_;rintro e w2 ⟨rfl,n1,rfl⟩;simp only [e1',e2'])
     |(go_at_call 106;refine (q1af w.heap.size w.heap.size (Lib.byteCells out) _ _ (hB2 _) hlen' (hsz2 _)).mono ?_;rintro e w4 ⟨rfl,hBA,hbl⟩;rw [hap] at hBA;have hsz4:=Nat.le_trans hsz hbl.size;have hw4:=(hb2 _).trans hbl)
     |(go_at_call 107;refine (q17f w.heap.size w.heap.size (out++sb.data.toList) _ (.inr hBA) hsz4).mono ?_;rintro e w5 ⟨rfl,hbl5⟩)
     |go_in)
    all_goals (go_ret;exact ⟨by rw [←hfin];rfl,hw4.trans hbl5⟩)
   ·go_wp2_with (first
     |(go_at_call 89;refine (q8o _ _ m _ (by first|with_reducible exact hsb|with_reducible exact hr1) (by first|with_reducible exact hmw|with_reducible exact hm1 _)).mono ?_;rintro e w2 ⟨rfl,n1,rfl⟩;simp only [e1',e2'])
     |(go_at_call 106;refine (q1af w.heap.size w.heap.size (Lib.byteCells out) _ _ (hB2 _) hlen' (hsz2 _)).mono ?_;rintro e w4 ⟨rfl,hBA,hbl⟩;rw [hap] at hBA;have hsz4:=Nat.le_trans hsz hbl.size;have hw4:=(hb2 _).trans hbl)
     |(go_at_call 107;refine (q17f w.heap.size w.heap.size (out++sb.data.toList) _ (.inr hBA) hsz4).mono ?_;rintro e w5 ⟨rfl,hbl5⟩)
     |go_in)
    all_goals (go_ret;exact ⟨by rw [←hfin];rfl,hw4.trans hbl5⟩)
end Go.Proofs.YtmacbkjehjbjeaaGreatDoor
