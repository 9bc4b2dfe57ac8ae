/- The rule on canonical.body answers at every body. -/
import Derived.Test.YtmlcmoaonaomfaaGreatDoorYQ
import Derived.Test.YtmlcmoaonaomfaaGreatDoorZ30
import Derived.WalkKit
import Derived.Deep.QuietTactic
import Derived.BigQuiet
import Derived.WalkMore
import Derived.Test.YtmlcmoaonaomfaaGreatDoorGB
import Derived.Deep.LoopGhost
import Derived.Lib.SlMapFilter
namespace Go.Proofs.YtmlcmoaonaomfaaGreatDoor
open Go.RowKit
def encU (xs:List Int):List (List C):=xs.map λx=>[.int .u8 x]
def encB8 (l:List UInt8):List (List C):=l.map λb=>[.int .u8 (b.toNat:Int)]
theorem q7w {sq:BA->BA} (h:∀ s,(sq s).size<=s.size):∀ (f:Nat) (r:List Int) (o:List UInt8×Nat),(bodF sq f r o).1.length<=o.1.length+2*o.2+r.length+2
 |0,r,o=>by show o.1.length<=_;omega
 |f+1,r,o=>by
  rw [bodF]
  split
  ·have:=q188 h o (ofB r)
   rw [qu5] at this
   omega
  ·rename_i hc
   have hroom:=qbr (xs:=r) (by omega)
   have h1:=q188 h o (ofB (r.take (cut2 r).toNat))
   rw [qu5,List.length_take] at h1
   have h2:=q7w h f (r.drop ((cut2 r).toNat+2)) (stepB sq o (ofB (r.take (cut2 r).toNat)))
   rw [List.length_drop] at h2
   omega
theorem bod_ok (sq:BA->BA) (hsl:∀ s,(sq s).size<=s.size) (hsq:∀ s:BA,s.size<=1000000->CallOk Tryz.prog 116 [.c (.str s)] (.c (.str (sq s)),[])) (xs:List Int) (h8:U8 xs) (hn:xs.length<=1000000) :
  CallOk Tryz.prog 82 [.c (.sl (encU xs))] (.c (.sl (encB8 (bodL sq xs))),[]):=by
 refine ⟨rfl,(λb hb=>by cases hb),λw Z Y cargs hG hZ hY hs hr=>?_⟩
 have hs1:cargs.size=1:=hs
 obtain ⟨u,hu⟩:∃ u,cargs[0]?=some u:=⟨cargs[0]'(by omega),Array.getElem?_eq_getElem _⟩
 have r0:=hr 0 u _ hu rfl
 obtain rfl:cargs=#[u]:=by
  apply Array.ext (by simpa using hs1)
  intro i h1 h2
  have:i=0:=by simp at h2;omega
  subst this
  rw [Array.getElem?_eq_getElem h1] at hu
  injection hu
 cases r0 with
 |c r0 =>
 cases r0 with
 |sl A n c k b off U _ hl hc hm hk hA hz hr' hN =>
  have hln:xs.length=n:=by simpa [encU] using hl
  have h0:Sl8 w (.slice A n c) xs:=by
   subst hln
   refine ⟨A,c,rfl,hc,hm,hN,λa ha i x hx=>?_⟩
   have he:(encU xs)[i]?=some [.int .u8 x]:=by rw [encU,x14q,hx];rfl
   have hk1:k=1:=(hk _ (List.mem_of_getElem? he)).symm
   subst hk1
   have hA':=hA (by intro e;rw [e] at he;simp at he)
   rw [ha] at hA'
   injection hA' with hA'
   subst hA'
   have z:=hZ _ _ _ (hz i _ 0 _ he rfl)
   have r1:=hr' i _ 0 _ he rfl
   rw [Nat.mul_one,Nat.add_zero] at z r1
   rw [Lib.add_plain']
   generalize U i=v at z r1
   cases r1
   exact z
  refine (callsIn_wide.1 (q7z sq hsl hsq A n c xs w hG h0 h8 hn)).mono ?_
  rintro e w' ⟨v,rfl,hb,ho⟩
  generalize bodL sq xs=l at ho
  rcases ho.2 with ⟨rfl,hl0⟩|⟨g,cap,cur,rfl,hg,hgc,hcap,hcm,hcs,htk⟩
  ·have hl1:l=[]:=List.eq_nil_of_length_eq_zero hl0
   subst hl1
   exact ⟨_,Z,λ_=>none,rfl,ZUp.refl,⟨q1el.2 hb,⟨hG,GB.no⟩,(λb o u h=>by have h2:=hZ _ _ _ h;rw [hb.cell _ (qar h2)];exact h2),(λ_ _ _ h=>by cases h),by simp,by simp,by simp,by simp,by simp⟩,.c (qxw _ (by decide) (λ_=>rfl)),λi h=>absurd rfl h⟩
  let Z':ZMap:=λb' o=>if b'=g then w'.cell? ⟨g,o,none⟩ else Z b' o
  have hzg:∀ b' o u,Z b' o=some u->b'≠g:=λb' o u h e=>by
   have:=qar (hZ _ _ _ h)
   omega
  have hup:ZUp (wb w) Z Z':=⟨λb' o u h=>by simp [Z',hzg b' o u h,h],λb' o u h=>by
   by_cases e:b'=g
   ·right;subst e;exact .inl (by show w.heap.size<=b';omega)
   ·left;simpa [Z',e] using h⟩
  have hZ':∀ b' o u,Z' b' o=some u->w'.cell? ⟨b',o,none⟩=some u:=λb' o u h=>by
   by_cases e:b'=g
   ·subst e;simpa [Z'] using h
   ·have h1:Z b' o=some u:=by simpa [Z',e] using h
    have h2:=hZ _ _ _ h1
    rw [hb.cell _ (qar h2)];exact h2
  refine ⟨_,Z',λ_=>none,rfl,hup,⟨q1el.2 hb,⟨hG,GB.no⟩,hZ',(λ_ _ _ h=>by cases h),by simp,by simp,by simp,by simp,by simp⟩,.c ?_,λi h=>absurd rfl h⟩
  have hget:∀ (i:Nat) (e:List C) (j:Nat) (x:C),(encB8 l)[i]?=some e->e[j]?=some x->j=0/\∃ n:Int,x=.int .u8 n/\w'.cell? ⟨g,i,none⟩=some (.int .u8 n):=by
   intro i e j x he hx
   rw [encB8,x14q] at he
   cases hi:l[i]? with
   |none=>rw [hi] at he;cases he
   |some y =>
    rw [hi] at he
    injection he with he
    subst he
    match j,hx with
    |0,hx =>
     simp at hx
     subst hx
     refine ⟨rfl,_,rfl,?_⟩
     have h1:(rowB l)[i]?=some (.int .u8 y.toNat):=by rw [rowB,x14q,hi];rfl
     rw [←htk,List.getElem?_take] at h1
     split at h1
     ·rw [qao hgc,←Array.getElem?_toList]
      exact h1
     ·cases h1
    |j+1,hx=>simp at hx
  refine .sl _ l.length cap 1 g 0 (λj=>(w'.cell? ⟨g,j,none⟩).getD undef) _ (by simp [encB8]) hcap hcm (λe he=>by obtain ⟨x,_,rfl⟩:=List.mem_map.1 he;rfl) (λ_=>rfl) ?_ ?_ (by simp)
  ·intro i e j x he hx
   obtain ⟨rfl,n,rfl,hcl⟩:=hget i e j x he hx
   simp [Z',hcl]
  ·intro i e j x he hx
   obtain ⟨rfl,n,rfl,hcl⟩:=hget i e j x he hx
   simp only [Nat.mul_one,Nat.add_zero,hcl,Option.getD_some]
   exact .int _ _
end Go.Proofs.YtmlcmoaonaomfaaGreatDoor
namespace Go.Proofs.YtmlcmoaonaomfaaGreatDoor
open Go.RowKit
theorem qdg (r:Int) (h:128<=r):∃ l:List UInt8,∃ x:UInt8,Utf8.encode r=⟨(l++[x]).toArray⟩/\128<=x.toNat/\1<=l.length/\l.length<=3:=by
 have hc:128<=(if Utf8.valid r then r.toNat else Utf8.runeError)/\(if Utf8.valid r then r.toNat else Utf8.runeError)<2097152:=by
  split
  ·rename_i hv
   unfold Utf8.valid at hv
   simp at hv
   omega
  ·unfold Utf8.runeError;omega
 unfold Utf8.encode
 simp only
 generalize (if Utf8.valid r then r.toNat else Utf8.runeError)=c at hc
 have hb:∀ n,128<=(UInt8.ofNat (128+n % 64)).toNat:=by
  intro n
  rw [UInt8.toNat_ofNat']
  have:n % 64<64:=Nat.mod_lt _ (by decide)
  omega
 rw [if_neg (by omega)]
 split
 ·exact ⟨[_],_,rfl,hb _,by simp,by simp⟩
 ·split
  ·exact ⟨[_,_],_,rfl,hb _,by simp,by simp⟩
  ·exact ⟨[_,_,_],_,rfl,hb _,by simp,by simp⟩
theorem qcd (s:BA) (i:Nat) (hi:i<s.size) (h:128<=(s[i]'hi).toNat):128<=(Utf8.decode s i).1/\(Utf8.decode s i).1<2147483648/\1<=(Utf8.decode s i).2/\i+(Utf8.decode s i).2<=s.size/\∀ j (hj:j<s.size),i<=j->j<i+(Utf8.decode s i).2->128<=(s[j]'hj).toNat:=by
 have g:∀ j (hj:j<s.size),s.get! j=s[j]'hj:=by
  intro j hj
  simp [ByteArray.get!,getElem!_pos,hj]
  rfl
 have hone:∀ j (hj:j<s.size),i<=j->j<i+1->128<=(s[j]'hj).toNat:=by
  intro j hj h1 h2
  have:j=i:=by omega
  subst this
  exact h
 have hcont:∀ k,(decide (i+k<s.size)&&(s.get! (i+k)).toNat / 64==2)=true->∃ hk:i+k<s.size,128<=(s[i+k]'hk).toNat:=by
  intro k hk
  simp at hk
  refine ⟨hk.1,?_⟩
  have:=hk.2
  rw [g _ hk.1] at this
  omega
 have h0:(s.get! (i+0)).toNat=(s[i]'hi).toNat:=by rw [Nat.add_zero,g i hi]
 have herr:128<=Utf8.runeError/\Utf8.runeError<2147483648:=by unfold Utf8.runeError;omega
 unfold Utf8.decode
 simp only [h0]
 rw [if_neg (by omega)]
 split
 ·rename_i hh
  rw [x6q] at hh
  obtain ⟨k1,c1⟩:=hcont 1 hh.2
  split
  ·rename_i hc
   refine ⟨hc,?_,by simp,by simp;omega,?_⟩
   ·have:(s[i]'hi).toNat<256:=UInt8.toNat_lt _
    simp only
    have h1:=Nat.mod_lt (s[i]'hi).toNat (show 32>0 by decide)
    have h2:=Nat.mod_lt (s.get! (i+1)).toNat (show 64>0 by decide)
    omega
   ·intro j hj h1 h2
    simp only at h2
    rcases (by omega:j=i∨j=i+1) with rfl|rfl
    ·exact h
    ·exact c1
  ·exact ⟨herr.1,herr.2,by simp,by simp;omega,hone⟩
 ·split
  ·rename_i hh
   rw [x6q,x6q] at hh
   obtain ⟨k1,c1⟩:=hcont 1 hh.1.2
   obtain ⟨k2,c2⟩:=hcont 2 hh.2
   split
   ·rename_i hc
    rw [x6q] at hc
    refine ⟨?_,?_,by simp,by simp;omega,?_⟩
    ·have:=of_decide_eq_true hc.1
     simp only
     omega
    ·simp only
     have h1:=Nat.mod_lt (s[i]'hi).toNat (show 16>0 by decide)
     have h2:=Nat.mod_lt (s.get! (i+1)).toNat (show 64>0 by decide)
     have h3:=Nat.mod_lt (s.get! (i+2)).toNat (show 64>0 by decide)
     omega
    ·intro j hj h1 h2
     simp only at h2
     rcases (by omega:j=i∨j=i+1∨j=i+2) with rfl|rfl|rfl
     ·exact h
     ·exact c1
     ·exact c2
   ·exact ⟨herr.1,herr.2,by simp,by simp;omega,hone⟩
  ·split
   ·rename_i hh
    rw [x6q,x6q,x6q] at hh
    obtain ⟨k1,c1⟩:=hcont 1 hh.1.1.2
    obtain ⟨k2,c2⟩:=hcont 2 hh.1.2
    obtain ⟨k3,c3⟩:=hcont 3 hh.2
    split
    ·rename_i hc
     rw [x6q] at hc
     refine ⟨?_,?_,by simp,by simp;omega,?_⟩
     ·have:=of_decide_eq_true hc.1
      simp only
      omega
     ·simp only
      have h1:=Nat.mod_lt (s[i]'hi).toNat (show 8>0 by decide)
      have h2:=Nat.mod_lt (s.get! (i+1)).toNat (show 64>0 by decide)
      have h3:=Nat.mod_lt (s.get! (i+2)).toNat (show 64>0 by decide)
      have h4:=Nat.mod_lt (s.get! (i+3)).toNat (show 64>0 by decide)
      omega
     ·intro j hj h1 h2
      simp only at h2
      rcases (by omega:j=i∨j=i+1∨j=i+2∨j=i+3) with rfl|rfl|rfl|rfl
      ·exact h
      ·exact c1
      ·exact c2
      ·exact c3
    ·exact ⟨herr.1,herr.2,by simp,by simp;omega,hone⟩
   ·exact ⟨herr.1,herr.2,by simp,by simp;omega,hone⟩
theorem qp2 (s:BA) (c:Int) (w:World):Calls Tryz.prog 38 #[.string s,.int .u8 c] w λe w'=>e=.returned (.int .i64 (Lib.indexByte s.data.toList c.toNat.toUInt8))/\w'=w:=Any.strings_IndexByte lays137 s c w
theorem q1ed (r:Int) (w:World):Calls Tryz.prog 205 #[.int .i32 r] w λe w'=>e=.returned (.bool (Lib.validRune r))/\w'=w:=Any.utf8_ValidRune lays119 r w
theorem qdh (r:Int) (h:128<=r):(∃ a x,Utf8.encode r=⟨#[a,x]⟩/\128<=x.toNat)∨(∃ a b x,Utf8.encode r=⟨#[a,b,x]⟩/\128<=x.toNat)∨∃ a b c x,Utf8.encode r=⟨#[a,b,c,x]⟩/\128<=x.toNat:=by
 obtain ⟨l,x,he,hx,h1,h2⟩:=qdg r h
 match l,h1,h2,he with
 |[a],_,_,he=>exact .inl ⟨a,x,he,hx⟩
 |[a,b],_,_,he=>exact .inr (.inl ⟨a,b,x,he,hx⟩)
 |[a,b,c],_,_,he=>exact .inr (.inr ⟨a,b,c,x,he,hx⟩)
theorem qp3 (s:BA) (x:UInt8) (hs:s.data.toList.all (λb=>decide (b.toNat<128))=true) (hx:128<=x.toNat) (w:World):Calls Tryz.prog 38 #[.string s,.int .u8 (x.toNat:Int)] w λe w'=>e=.returned (.int .i64 (-1))/\w'=w:=by
 have h:=qp2 s (x.toNat:Int) w
 have hb:((x.toNat:Int)).toNat.toUInt8=x:=by simp
 have:Lib.indexByte s.data.toList x=-1:=by
  generalize s.data.toList=l at hs
  induction l with
  |nil=>rfl
  |cons b l ih =>
   rw [x17q,x6q] at hs
   have h1:=of_decide_eq_true hs.1
   have hne:(b==x)=false:=by
    rw [beq_eq_false_iff_ne]
    intro e
    subst e
    omega
   rw [Lib.indexByte,hne,ih hs.2]
   rfl
 rw [hb,this] at h
 exact h
theorem below_drewN' (w:World) (n:Nat):Below w.heap.size w (w.drewN n):=⟨rfl,rfl,rfl,Nat.le_refl _,λ_ _=>rfl⟩
theorem q7k (w:World) (o:Obj):Below w.heap.size w (w.alloc o):=(Below.refl _ w).alloc (Nat.le_refl _) o
set_option maxHeartbeats 4000000 in
set_option maxRecDepth 100000 in
theorem qp5 (r:Int) (h:128<=r) (w:World):Calls Tryz.prog 179 #[.string ⟨#[13,10,0]⟩,.int .i32 r] w λe w'=>e=.returned (.int .i64 (-1))/\Below w.heap.size w w':=by
 have h0:(0:Int)<=r:=by omega
 have h1:¬ r<128:=by omega
 go_enter Tryz.func179,Tryz.ntmps179
 go_wp2_with (first
  |(go_at_call 205;refine (q1ed r _).mono ?_;rintro e w2 ⟨rfl,rfl⟩)
  |go_in)
 ·-- the rune of an error: none of the three
  have n0:=λty=>run_next_ascii (P:=Tryz.prog) w ⟨#[13,10,0]⟩ 0 ty (by decide) (by decide)
  have n1:=λty=>run_next_ascii (P:=Tryz.prog) w ⟨#[13,10,0]⟩ 1 ty (by decide) (by decide)
  have n2:=λty=>run_next_ascii (P:=Tryz.prog) w ⟨#[13,10,0]⟩ 2 ty (by decide) (by decide)
  have n3:=λty=>run_next_end (P:=Tryz.prog) w ⟨#[13,10,0]⟩ 3 ty (by decide)
  refine wp_loop_rounds 4 ?_
  rw [rounds_succ]
  go_wp2
  rw [rounds_succ]
  go_wp2
  rw [rounds_succ]
  go_wp2
  rw [rounds_succ]
  go_wp2
  go_ret
  exact ⟨rfl,q7k _ _⟩
 ·go_ret
  exact ⟨rfl,Below.refl _ _⟩
 ·rcases qdh r h with ⟨a,x,he,hx⟩|⟨a,b,x,he,hx⟩|⟨a,b,c,x,he,hx⟩
  ·have d1:((10:Int) != (x.toNat:Int))=true:=by rw [bne_iff_ne];omega
   have d2:((0:Int) != (x.toNat:Int))=true:=by rw [bne_iff_ne];omega
   go_step3
   go_wp2
   refine wp_loop_rounds 1 ?_
   rw [rounds_succ]
   go_wp2
   go_step3
   go_wp2
   go_quiet (fail)
   go_wp2
   go_quiet ((go_at_call 38;exact (qp3 _ x (by decide) hx _).mono λ_ _ h=>⟨h.1,_,h.2⟩))
   go_wp2
   ·simp only [Exit.noGoto,Exit.inBlock,Exit.then]
    go_ret
    exact ⟨rfl,below_drewN' _ _⟩
   ·exfalso
    have hh:((10:Int) != (x.toNat:Int))=false:=by assumption
    exact absurd (d1.symm.trans hh) (by decide)
  ·have d1:((10:Int) != (x.toNat:Int))=true:=by rw [bne_iff_ne];omega
   have d2:((0:Int) != (x.toNat:Int))=true:=by rw [bne_iff_ne];omega
   go_step3
   go_wp2
   refine wp_loop_rounds 1 ?_
   rw [rounds_succ]
   go_wp2
   go_step3
   go_wp2
   go_quiet (fail)
   go_wp2
   go_quiet ((go_at_call 38;exact (qp3 _ x (by decide) hx _).mono λ_ _ h=>⟨h.1,_,h.2⟩))
   go_wp2
   ·simp only [Exit.noGoto,Exit.inBlock,Exit.then]
    go_ret
    exact ⟨rfl,below_drewN' _ _⟩
   ·exfalso
    have hh:((0:Int) != (x.toNat:Int))=false:=by assumption
    exact absurd (d2.symm.trans hh) (by decide)
  ·go_step3
   go_wp2
   refine wp_loop_rounds 1 ?_
   rw [rounds_succ]
   go_wp2
   rw [Exit.noGoto_ret]
   go_ret
   exact ⟨rfl,Below.refl _ _⟩
end Go.Proofs.YtmlcmoaonaomfaaGreatDoor
namespace Go.Proofs.YtmlcmoaonaomfaaGreatDoor
open Go.RowKit Go.ChangeMaps
theorem q14x {P:Program} (W:World) (r:Nat) (s:BA) (pos:Nat) (h:W.heap[r]?=some (.stringIter s pos)) (hp:pos<s.size) (ty:TypeId) :
  (Instr.next (.pointer (some ⟨r,0,none⟩)) true ty).run P W=.ok (.tuple #[.bool true,.int .i64 pos,.int .i32 (Utf8.decode s pos).1]) (setBlock W r (.stringIter s (pos+(Utf8.decode s pos).2))):=by
 simp [Instr.next,getObj,setObj,Sem.run,h,hp,Result.andThen,goInt,setBlock]
theorem q14y {P:Program} (W:World) (r:Nat) (s:BA) (pos:Nat) (h:W.heap[r]?=some (.stringIter s pos)) (hp:¬ pos<s.size) (ty:TypeId) :
  (Instr.next (.pointer (some ⟨r,0,none⟩)) true ty).run P W=.ok (.tuple #[.bool false]) W:=by
 simp [Instr.next,getObj,Sem.run,h,hp]
theorem qp4 (s:BA) (r:Int) (w:World) (h0:0<=r) (h1:r<128):Calls Tryz.prog 179 #[.string s,.int .i32 r] w λe w'=>e=.returned (.int .i64 (Lib.indexByte s.data.toList r.toNat.toUInt8))/\w'=w:=Any.strings_IndexRune_ascii lays152 s r w h0 h1
theorem qn4 (s chars:BA) (w:World) (h2:2<=chars.size) (h8:8<s.size) (hs:s.size<4294967281) (hcs:chars.size<4294967281) (hascii:∀ (j:Nat) b,chars.data.toList[j]?=some b->b.toNat<128) :
  Calls Tryz.prog 155 #[.string s,.string chars] w λe w'=>e=.returned (.int .i64 (Lib.indexAny s.data.toList chars.data.toList))/\Below w.heap.size w w':=by
 refine (Any.strings_IndexAny_long lays153 (λw=>by kernel_rfl) (by kernel_rfl) s chars w h2 h8 hs hcs hascii).mono λe w'=>?_
 rintro ⟨rfl,rfl⟩
 exact ⟨rfl,((Below.refl _ _).alloc (Nat.le_refl _) _).alloc (by simp) _⟩
theorem q1a4 (n:Int) (w:World):Calls Tryz.prog 180 #[.int .i64 n] w λe w'=>e=.returned (.bool (decide (8<n)))/\w'=w:=Any.strings_shouldUseASCIISet { lays153 with } n w
theorem qtf {s:BA} {i k:Nat} (h:Lib.NoAny s.data.toList crlf0 i) (hk:∀ j (hj:j<s.size),i<=j->j<k->crlf0.contains (s[j]'hj)=false):Lib.NoAny s.data.toList crlf0 k:=λj b hj hb=>by
 by_cases e:j<i
 ·exact h j b e hb
 ·obtain ⟨hj2,hb2⟩:=List.getElem?_eq_some_iff.1 hb
  have hj3:j<s.size:=by rw [x24q] at hj2;exact hj2
  have:=hk j hj3 (by omega) hj
  rw [←hb2]
  exact this
theorem qbp (b:UInt8) (h:128<=b.toNat):crlf0.contains b=false:=by
 unfold crlf0
 have h1:b≠13:=λe=>by subst e;revert h;decide
 have h2:b≠10:=λe=>by subst e;revert h;decide
 have h3:b≠0:=λe=>by subst e;revert h;decide
 simp [h1,h2,h3]
theorem q7m {B:Nat} {a w:World} (h:Below B a w) {r:Nat} (hr:B<=r) (o:Obj):Below B a (setBlock w r o) :=
 ⟨h.os,h.tape,h.output,by simp only [setBlock,Array.size_setIfInBounds];exact h.size,λk hk=>by
  simp only [setBlock]
  rw [Array.getElem?_setIfInBounds_ne (by omega)]
  exact h.block k hk⟩
set_option maxHeartbeats 8000000 in
set_option maxRecDepth 1000000 in
theorem qn5 (s:BA) (w:World) (h8:s.size<=8) :
  Calls Tryz.prog 155 #[.string s,.string ⟨#[13,10,0]⟩] w λe w'=>e=.returned (.int .i64 (Lib.indexAny s.data.toList crlf0))/\Below w.heap.size w w':=by
 have h8z:decide ((8:Int)<(s.size:Int))=false:=decide_eq_false (by omega)
 have hb0:Below w.heap.size w (w.iter s 0):=q7k _ _
 have hi0:=World.iter_heap w s 0
 go_enter Tryz.func155,Tryz.ntmps155
 go_wp2_with (go_at_call 180;refine (q1a4 _ _).mono ?_;rintro e w' ⟨rfl,hw⟩;rw [hw,h8z])
 go_loopg [9,10] s.size (λg _ _ wx=>∃ i:Nat,i+g=s.size/\wx.heap[w.heap.size]?=some (.stringIter s i)/\Below w.heap.size w wx/\Lib.NoAny s.data.toList crlf0 i)
 case atStart=>exact ⟨0,by omega,hi0,hb0,Lib.NoAny.zero _ _⟩
 case round =>
  obtain ⟨i,hig,hit,hbel,hno⟩:=hrel
  cases gk with
  |zero =>
   obtain rfl:i=s.size:=by omega
   have hnx:=q14y (P:=Tryz.prog) wr w.heap.size s s.size hit (by omega)
   have hnone:Lib.indexAny s.data.toList crlf0=-1:=Lib.indexAny_none (by rw [x24q];exact hno)
   go_wp2
   go_ret
   exact ⟨by rw [hnone];rfl,hbel⟩
  |succ g =>
   have hi:i<s.size:=by omega
   have hnx:=q14x (P:=Tryz.prog) wr w.heap.size s i hit hi
   have hlt:=(Array.getElem?_eq_some_iff.1 hit).1
   by_cases hx:(s[i]'hi).toNat<128
   ·rw [decode_ascii s i hi hx] at hnx
    simp only at hnx
    have hset:(setBlock wr w.heap.size (.stringIter s (i+1))).heap[w.heap.size]?=some (.stringIter s (i+1)):=by
     simp only [setBlock]
     rw [Array.getElem?_setIfInBounds_self_of_lt hlt]
    have hb1:=q7m hbel (Nat.le_refl _) (.stringIter s (i+1))
    obtain ⟨x,hxe⟩:∃ x:UInt8,s[i]'hi=x:=⟨_,rfl⟩
    rw [hxe] at hnx hx
    have hxl:s.data.toList[i]?=some x:=by rw [←hxe];exact Lib.data_getElem? s i hi
    have hcon:=Lib.contains_iff_indexByte crlf0 x
    have hback:((x.toNat:Int)).toNat.toUInt8=x:=by simp
    have hr:=λW=>qp4 ⟨#[13,10,0]⟩ (x.toNat:Int) W (by omega) (by omega)
    rw [hback] at hr
    have hcd:(⟨#[13,10,0]⟩:BA).data.toList=crlf0:=rfl
    rw [hcd] at hr
    cases hin:crlf0.contains x with
    |false =>
     rw [hin] at hcon
     have hlt0:¬ ((0:Int)<=Lib.indexByte crlf0 x):=of_decide_eq_false hcon.symm
     have hno1:Lib.NoAny s.data.toList crlf0 (i+1):=hno.succ hxl hin
     clear hcon
     go_wp2_with (first
      |(go_at_call 179;refine (hr _).mono ?_;rintro e w' ⟨rfl,rfl⟩)
      |go_in)
     go_roundg g
     case measure=>omega
     case rel=>exact ⟨i+1,by omega,hset,hb1,hno1⟩
    |true =>
     rw [hin] at hcon
     have hge0:(0:Int)<=Lib.indexByte crlf0 x:=of_decide_eq_true hcon.symm
     have hhit:Lib.indexAny s.data.toList crlf0=i:=Lib.indexAny_hit hno hxl hin
     clear hcon
     go_wp2_with (first
      |(go_at_call 179;refine (hr _).mono ?_;rintro e w' ⟨rfl,rfl⟩)
      |go_in)
     go_ret
     exact ⟨by rw [hhit];rfl,hb1⟩
   ·obtain ⟨d1,d2,d3,d4,d5⟩:=qcd s i hi (by omega)
    have hno1:Lib.NoAny s.data.toList crlf0 (i+(Utf8.decode s i).2):=qtf hno (λj hj h1 h2=>qbp _ (d5 j hj h1 h2))
    generalize (Utf8.decode s i).1=c at hnx d1 d2
    generalize (Utf8.decode s i).2=k at hnx d3 d4 d5 hno1
    have hset:(setBlock wr w.heap.size (.stringIter s (i+k))).heap[w.heap.size]?=some (.stringIter s (i+k)):=by
     simp only [setBlock]
     rw [Array.getElem?_setIfInBounds_self_of_lt hlt]
    have hb1:=q7m hbel (Nat.le_refl _) (.stringIter s (i+k))
    have hsz1:w.heap.size<(setBlock wr w.heap.size (.stringIter s (i+k))).heap.size:=by simp only [setBlock,Array.size_setIfInBounds];exact hlt
    have hr:=λW=>qp5 (c:Int) (by omega) W
    go_wp2_with (first
     |(go_at_call 179;refine (hr _).mono ?_;rintro e w' ⟨rfl,hbw⟩)
     |go_in)
    go_roundg (s.size - (i+k))
    case measure=>omega
    case rel=>exact ⟨i+k,by omega,by rw [hbw.block _ hsz1];exact hset,hb1.trans (hbw.mono (by omega)),hno1⟩
end Go.Proofs.YtmlcmoaonaomfaaGreatDoor
namespace Go.Proofs.YtmlcmoaonaomfaaGreatDoor
open Go.RowKit Go.Maps
def digL (l:List UInt8):Bool:=match l with
 |b::_=>decide (48<=b.toNat)&&decide (b.toNat<=57)
 |[]=>false
def pdL (k:Lit) (_:DataW Unit):Bool:=match k with
 |.string l=>digL l
 |_=>false
theorem qgh (l:List (BA×BA)):Lib.deleteFuncD pdL (datM l)=datM (l.filter λp=>!digP p.1):=by
 unfold datM Lib.deleteFuncD
 simp only
 congr 1
 induction l with
 |nil=>rfl
 |cons p l ih =>
  rw [List.map_cons,List.filter_cons,List.filter_cons]
  have:(!pdL (litM p).1 (litM p).2)=!digP p.1:=rfl
  rw [this]
  cases !digP p.1 with
  |true=>simp [ih]
  |false=>simpa using ih
theorem qkd (w:World) (row:Oq Nat):w.grownBy w row:=⟨rfl,rfl,rfl,Nat.le_refl _,λ_ _ _=>rfl⟩
theorem qcj (k:BA) (h:0<k.size):digP k=(decide ((48:Int)<=(k[0].toNat:Int))&&decide ((k[0].toNat:Int)<=57)):=by
 obtain ⟨⟨l⟩⟩:=k
 cases l with
 |nil=>cases h
 |cons b l =>
  show (decide (48<=b.toNat)&&decide (b.toNat<=57))=(decide ((48:Int)<=(b.toNat:Int))&&decide ((b.toNat:Int)<=57))
  rw [Bool.eq_iff_iff]
  simp
  omega
set_option maxRecDepth 100000 in
theorem qck (k v:BA) (hk:k.size≠0) (w:World):Calls Tryz.prog 145 #[.string k,.string v] w λe w'=>e=.returned (.bool (digP k))/\w.grownBy w' none:=by
 have hp:=qcj k (by omega)
 go_enter Tryz.func145,Tryz.ntmps145
 go_wp2
 ·go_ret
  refine ⟨?_,qkd _ _⟩
  first|rw [hp]|skip
  rename_i h
  simp [h]
 ·go_ret
  refine ⟨?_,qkd _ _⟩
  first|rw [hp]|skip
  rename_i h
  have:decide ((48:Int)<=(k[0].toNat:Int))=false:=decide_eq_false (by omega)
  rw [this]
  rfl
set_option maxRecDepth 100000 in
theorem RM_inv {v:Value} {y:DataW Unit×List MemPlace} (h:RM Tryz.prog 9 v=some y):∃ s,v=.string s:=by
 unfold RM plainElem at h
 rw [Tryz.underlying9] at h
 cases v <;> simp at h
 exact ⟨_,rfl⟩
set_option maxHeartbeats 4000000 in
set_option maxRecDepth 100000 in
theorem qch (b n:Nat) (l:List (BA×BA)) (w:World) (hown:w.ownsMap Tryz.prog 9 (RM Tryz.prog 9) b n (datM l)) (hne:∀ p∈l,p.1.size≠0) :
  Calls Tryz.prog 144 #[.map (some b),.func (.func 145) #[] #[]] w λe w'=>e=.returned (.tuple #[])/\w'.ownsMap Tryz.prog 9 (RM Tryz.prog 9) b n (datM (l.filter λp=>!digP p.1))/\w.grownBy w' (some b):=by
 have K:=Maps.string_keyed Tryz.underlying9
 have hu:Tryz.prog.underlying 114=some (.map 9 9):=Tryz.underlying114
 obtain ⟨es0,hes,hap,hkeys⟩:=hown.entries K
 have hes':l.map litM=es0:=by unfold datM at hes;injection hes
 have hcalls:=qck
 have hfin:=qgh l
 rw [hes] at hown hfin
 have hin:∀ (k:BA),Maps.has (.map es0) (.string k.data.toList)=true->k.size≠0:=by
  intro k hk
  rw [Maps.has_eq,List.any_eq_true] at hk
  obtain ⟨p,hp,hs⟩:=hk
  rw [←hes',List.mem_map] at hp
  obtain ⟨q,hq,rfl⟩:=hp
  have h0:=hne q hq
  have e:q.1.data.toList=k.data.toList:=by simpa [litM,Lit.sameKey] using hs
  have e2:q.1.data.toList.length=q.1.size:=by rw [x24q];rfl
  have e3:k.data.toList.length=k.size:=by rw [x24q];rfl
  rw [←e3,←e,e2]
  exact h0
 rw [←hfin]
 clear hfin
 go_enter Tryz.func144,Tryz.ntmps144
 go_wp2_with (first
  |(at_range;refine wpList_range_own _ rfl _ 114 rfl 9 9 K hu _ b n _ rfl hown ?_;intro w0 hrg0 hg0 hs0)
  |go_in)
 go_frame
 go_loopw [8] (λ_ wr=>∃ (left:Lit->Bool) (cnt:Nat),wr.ranges Tryz.prog 9 (RM Tryz.prog 9) b w.heap.size n (Fk pdL es0 left) left cnt/\w.grownBy wr (some b)/\∀ kl,left kl=true->Maps.has (.map es0) kl=true)
  (λ_ wr=>wr.rangeLeft b w.heap.size)
 case atStart=>exact ⟨_,_,by rw [Fk_start hkeys];exact hrg0,hg0.but _,λ_ h=>h⟩
 case round =>
  obtain ⟨left,cnt,hrg,hgw,hlf⟩:=hrel
  go_wp2_with (first
   |(at_next;refine wpList_next_ranges _ rfl _ rfl 9 K (RM Tryz.prog 9) Value.string Value.string (λkey kl h=>by obtain ⟨s,e,_⟩:=(qpb Tryz.underlying9 _ _).1 h;exact ⟨s,e⟩) (λv y h=>RM_inv h) b w.heap.size n _ _ _ rfl hrg ?_ ?_)
   |go_in)
  ·intro _ hl0
   go_wp2
   go_end0
   exact ⟨rfl,by rw [←Fk_end hl0];exact hrg.owns,hgw⟩
  ·intro k v kl yd yp w1 cnt1 hkey hlx hv hat hrg1 hlt hg1 hs1 hen
   have hgw1:=hgw.andThen hg1 (λj hj=>by cases hj;exact Or.inl (Nat.le_refl _))
   obtain ⟨k',ek,hks,rfl⟩:=(qpb Tryz.underlying9 _ _).1 hkey
   cases ek
   have hk0:=hin k (hlf _ hlx)
   have hc:=hcalls k v hk0 w1
   have hbl:=hrg1.owns.lt
   have hrl:=hrg1.lt
   have hpe:pdL (.string k.data.toList) yd=digP k:=rfl
   cases hp:digP k <;> rw [hp] at hc hpe
   ·go_wp2_with (first
     |(go_at_call 145;refine hc.mono ?_;rintro e w2 ⟨rfl,hg2⟩)
     |go_in)
    have hrg2:=hrg1.kept hg2 (by simp) (by simp)
    go_roundw
    case rel=>exact ⟨_,cnt1,by rw [←Fk_stays hap (kl:=.string k.data.toList) trivial hlx hpe hat];exact hrg2,hgw1.andThen hg2 (λj hj=>by cases hj),λz hz=>hlf z (by simp at hz;exact hz.1)⟩
    case measure=>rw [hrg2.left_eq,hrg.left_eq];exact hlt
   ·go_wp2_with (first
     |(go_at_call 145;refine hc.mono ?_;rintro e w2 ⟨rfl,hg2⟩;have hrg2:=hrg1.kept hg2 (by simp) (by simp))
     |(at_delete;refine wpList_delete_ranges _ rfl _ _ 114 9 rfl 9 K hu (RM Tryz.prog 9) b w.heap.size n _ _ _ rfl hrg2 _ _ rfl hkey ?_;intro w3 cnt3 hrg3 hle hturn;go_frame)
     |go_in)
    rw [strike_twice] at hrg3
    go_roundw
    case rel=>exact ⟨_,cnt3,by rw [←Fk_struck hap (kl:=.string k.data.toList) trivial hlx hpe hat];exact hrg3,(hgw1.andThen hg2 (λj hj=>by cases hj)).andThen hturn.grown (λj hj=>by cases hj;exact Or.inr rfl),λz hz=>hlf z (by simp at hz;exact hz.1)⟩
    case measure=>rw [hrg3.left_eq,hrg.left_eq];omega
end Go.Proofs.YtmlcmoaonaomfaaGreatDoor
