/- The rule on slices.Sort at ints is sound. -/
import Derived.Test.YtfakibajjibjjaaGreatDoorGB
import Derived.Test.YtfakibajjibjjaaGreatDoorRC
import Derived.Sort.OwnSortedInts
import Derived.WalkKit
import Derived.Deep.QuietTactic
import Derived.BigQuiet
import Derived.WalkMore
import Derived.Deep.LoopGhost
import Derived.Lib.SlMapFilter
namespace Go.Proofs.YtfakibajjibjjaaGreatDoor
open Go.RowKit Go.Sort
set_option maxRecDepth 100000
section
variable {w0:WB} {Z Y:ZMap} {m:Nat→Option Value} {h:Nat→Option B} {sh:Nat→Bool} {w:World}
theorem qn4 {g:Nat} {w':World} (h:Frm (fun k=>k=g) w w') (hg:g<w.heap.size):∃ w1,Wr g w w1∧Bel w1 w'∧w1.heap[g]?=w'.heap[g]?:=by
 have hg':g<w'.heap.size:=Nat.lt_of_lt_of_le hg h.size
 refine ⟨{ w' with heap:=w.heap.setIfInBounds g w'.heap[g] },⟨h.os,h.tape,h.output,by simp,fun k hk=>?_⟩,⟨rfl,rfl,rfl,by simpa using h.size,fun k hk=>?_⟩,?_⟩
 ·show (w.heap.setIfInBounds g w'.heap[g])[k]?=_
  rw [Array.getElem?_setIfInBounds_ne (Ne.symm hk)]
 ·show w'.heap[k]?=(w.heap.setIfInBounds g w'.heap[g])[k]?
  have hk:k<w.heap.size:=by simpa using hk
  by_cases e:k=g
  ·subst e
   rw [Array.getElem?_setIfInBounds_self_of_lt hg,Array.getElem?_eq_getElem hg']
  ·rw [Array.getElem?_setIfInBounds_ne (Ne.symm e)]
   exact h.block k hk (fun e2=>e e2)
 ·show (w.heap.setIfInBounds g w'.heap[g])[g]?=_
  rw [Array.getElem?_setIfInBounds_self_of_lt hg,Array.getElem?_eq_getElem hg']
end
theorem jargs1 {cargs:Array Value} (hs:cargs.size=1):cargs=#[cargs.getD 0 undef]:=by
 apply Array.ext (by simpa using hs)
 intro i h1 h2
 have:i=0:=by omega
 subst this
 simp [Array.getD,h1]
theorem qn7 {α:Type} (f:Nat→α) (i:Nat) (a b:α):upd (upd f i a) i b=upd f i b:=by funext j;unfold upd;split <;> rfl
theorem qn6 {α:Type} {f:Nat→α} {i:Nat} {a:α} (h:f i=a):upd f i a=f:=by funext j;unfold upd;split <;> simp_all
theorem qm5:∀ {es:List (List C)},es.all intB=true→∃ l:List Int,es=l.map encI1
 |[],_=>⟨[],rfl⟩
 |e::es,h=>by
  rw [List.all_cons,Bool.and_eq_true] at h
  obtain ⟨l,rfl⟩:=qm5 h.2
  have h1:=h.1
  unfold intB at h1
  split at h1
  ·rename_i n;exact ⟨n::l,rfl⟩
  ·cases h1
theorem q10a (l:List Int):srtL (l.map encI1)=(l.mergeSort leI).map encI1:=by
 unfold srtL
 rw [List.map_map]
 congr 2
 have:intE ∘ encI1=id:=rfl
 rw [this,List.map_id]
structure RowI (w:World) (g n c:Nat) (l:List Int):Prop where
 ex:∃ t fz cur,w.heap[g]?=some (.cells cur t fz)∧cur.size=c∧(∀ o,o<cur.size→¬ (fz.1≤o∧o<fz.2))∧fz.1≤fz.2∧∀ (i:Nat) (x:Int),l[i]?=some x→cur[i]?=some (.int .i64 x)
 len:l.length=n
 le:n≤c
 max:c≤maxLen
theorem RowI.lt {w:World} {g n c:Nat} {l:List Int} (h:RowI w g n c l):g<w.heap.size:=by
 obtain ⟨⟨t,fz,cur,hv,hr⟩,_⟩:=h
 exact qk9 hv
theorem RowI.same {w w':World} {g n c:Nat} {l:List Int} (h:RowI w g n c l) (hb:w'.heap[g]?=w.heap[g]?):RowI w' g n c l:=by
 obtain ⟨⟨t,fz,cur,hv,hr⟩,h1,h2,h3⟩:=h
 exact ⟨⟨t,fz,cur,hb.trans hv,hr⟩,h1,h2,h3⟩
theorem RowI.holds {w:World} {g n c:Nat} {l:List Int} (h:RowI w g n c l):Holds (Value.int .i64) w g 0 l.toArray:=by
 obtain ⟨⟨t,fz,cur,hv,hs,hf,hfz,hc⟩,hl,hle,hm⟩:=h
 intro j hj
 have hj':j<l.length:=by simpa using hj
 refine ⟨?_,?_⟩
 ·simp only [World.cell?,hv,Nat.zero_add]
  rw [getElem!_pos l.toArray j hj]
  simpa using hc j _ (List.getElem?_eq_getElem hj')
 ·obtain ⟨lo,hi⟩:=fz
  have:=hf j (by omega)
  simp only [World.frozen?,hv,Nat.zero_add]
  simp only [Bool.and_eq_false_iff,decide_eq_false_iff_not]
  simp only at this
  omega
theorem qvq {w:World} {base:Nat→Prop} {Z:ZMap} {s:Bool} {g n c:Nat} {l:List Int} (hat:RowAt base Z s w g n c 1 (l.map encI1)):RowI w g n c l:=by
 obtain ⟨t,fz,cur,hv,hcs,⟨hf,_,hfz⟩,hcell⟩:=hat.ex
 refine ⟨⟨t,fz,cur,hv,by omega,hf,hfz,fun i x hx=>?_⟩,by simpa using hat.len,hat.le,hat.max⟩
 have he:(l.map encI1)[i]?=some (encI1 x):=by rw [List.getElem?_map,hx];rfl
 obtain ⟨u0,a0,b0⟩:=hcell i _ 0 _ he rfl
 cases b0
 simpa using a0
theorem qvp {w:World} {base:Nat→Prop} {Z:ZMap} {s:Bool} {g n c:Nat} {l:List Int} (h:RowI w g n c l) (hb:base g) (hZ:∀ o,Z g o=none) (hl:l≠[]):RowAt base Z s w g n c 1 (l.map encI1):=by
 obtain ⟨⟨t,fz,cur,hv,hcs,hf,hfz,hc⟩,hln,hle,hmx⟩:=h
 have hn:n≠0:=fun e=>hl (List.eq_nil_of_length_eq_zero (hln.trans e))
 refine ⟨hb,⟨t,fz,cur,hv,by omega,⟨hf,fun e=>absurd rfl e,hfz⟩,fun i e j x he hx=>?_⟩,by simpa using hln,hle,hmx,by decide,fun e=>absurd e hn,fun e he=>?_,fun o ho=>absurd (hZ o) ho⟩
 ·rw [List.getElem?_map] at he
  cases hy:l[i]? with
  |none=>rw [hy] at he;cases he
  |some y =>
   rw [hy] at he
   injection he with he
   subst he
   match j with
   |0=>simp [encI1] at hx;subst hx;exact ⟨_,by simpa using hc i y hy,.int _ _⟩
   |j+1=>simp [encI1] at hx
 ·obtain ⟨y,_,rfl⟩:=List.mem_map.1 he
  rfl
theorem qzv {w:World} {g n c:Nat} {l:List Int} (h:RowI w g n c l) (hb:l.length<4611686018427387904):Calls Tryz.prog 93 #[.slice (some ⟨g,0,none⟩) n c] w fun e w'=>e=.returned (.tuple #[])∧Frm (fun k=>k=g) w w'∧RowI w' g n c (l.mergeSort leI):=by
 have hcon:=Any.slices_Sort_int lays189 g 0 c l w h.holds h.lt hb
 rw [h.len] at hcon
 refine hcon.mono ?_
 rintro e w' ⟨rfl,q,os,rfl⟩
 obtain ⟨⟨t,fz,cur,hv,hcs,hf,hfz,hc⟩,hln,hle,hmx⟩:=h
 have hgb:=grownBy_sortedI (w:=w) (g:=g) (n:=q) (os:=os) (l.mergeSort leI).toArray
 have hhp:=heap_sortedI (n:=q) (os:=os) (l.mergeSort leI).toArray hv
 refine ⟨rfl,?_,⟨⟨t,fz,_,hhp,by simp [putCells,hcs],by simpa [putCells] using hf,hfz,fun i x hx=>?_⟩,by rw [List.length_mergeSort];exact hln,hle,hmx⟩⟩
 ·obtain ⟨a1,a2,a3,a4,a5⟩:=hgb
  exact ⟨a1,a2,a3,a4,fun k hk hne=>a5 k hk (fun e=>hne (by cases e;rfl))⟩
 ·have hi:=(List.getElem?_eq_some_iff.1 hx).1
  have hi2:i<cur.size:=by rw [List.length_mergeSort] at hi;omega
  unfold putCells
  rw [Array.getElem?_mapIdx,Array.getElem?_eq_getElem hi2]
  simp only [Option.map_some,Nat.zero_le,true_and,Nat.zero_add,Nat.sub_zero,List.size_toArray]
  rw [if_pos hi,getElem!_pos _ i (by simpa using hi)]
  rw [List.getElem?_eq_getElem hi] at hx
  injection hx with hx
  simp [hx]
theorem q10b (st:St) (vs:List V) (s1:St) (h:srtX.run (List V×St) st some=some (vs,s1)):RuleOk Tryz.prog 93 1 st vs s1:=by
 unfold srtX at h
 simp only at h
 split at h
 case h_2=>cases h
 rename_i id n e0
 split at h
 case h_2=>cases h
 rename_i es hes
 cases hsh:st.sh id with
 |true=>rw [hsh] at h;cases h
 |false =>
 rw [hsh,cond_false] at h
 obtain ⟨hg,h⟩:=qiu h
 simp only [Bool.and_eq_true,decide_eq_true_eq] at hg
 obtain ⟨l,rfl⟩:=qm5 hg.1
 have hsz:l.length≤1000000:=by simpa using hg.2
 have h':(vs,s1)=(([]:List V),{ st with h:=upd st.h id (some (.row (srtL (l.map encI1)))) }):=(Option.some.inj h).symm
 injection h' with h1 h2
 subst h1 h2
 rw [q10a]
 intro G w0 w Z Y m cargs R hm hG hs hr
 have r0:=hr 0
 rw [e0] at r0
 rw [jargs1 hs]
 generalize cargs.getD 0 undef=u0 at r0
 have nil0:∀ A,u0=.slice A 0 0→l=[]→Calls Tryz.prog 93 #[u0] w fun e w'=>∃ cv Z' m',e=.returned cv∧ZUp w0 Z Z'∧Rel w0 Z' Y m' (upd st.h id (some (.row ((l.mergeSort leI).map encI1)))) st.sh w'∧Rep Z' Y m' cv (oneOrTup [])∧(∀ (i id:Nat) (u:Value),st.og[i]?=some id→G i=some u→m' id=some u)∧∀ i,m' i≠none→i<st.nx:=by
  rintro A rfl rfl
  refine (Any.slices_Sort_int_none lays189 A 0 w).mono ?_
  rintro e w' ⟨rfl,rfl⟩
  have e1:(([]:List Int).mergeSort leI).map encI1=([]:List Int).map encI1:=by simp
  rw [e1,qn6 hes]
  exact ⟨_,Z,m,rfl,ZUp.refl,R,.tup _ _ rfl (by simp),hG,hm⟩
 have row0:∀ g c k,u0=.slice (some ⟨g,0,none⟩) n c→m id=some u0→RowAt w0.own Z (st.sh id) w g n c k (l.map encI1)→l≠[]→Calls Tryz.prog 93 #[u0] w fun e w'=>∃ cv Z' m',e=.returned cv∧ZUp w0 Z Z'∧Rel w0 Z' Y m' (upd st.h id (some (.row ((l.mergeSort leI).map encI1)))) st.sh w'∧Rep Z' Y m' cv (oneOrTup [])∧(∀ (i id:Nat) (u:Value),st.og[i]?=some id→G i=some u→m' id=some u)∧∀ i,m' i≠none→i<st.nx:=by
  rintro g c k rfl hmi hat hl
  have hk:k=1:=by
   obtain ⟨x,xs,rfl⟩:=List.exists_cons_of_ne_nil hl
   exact (hat.each (encI1 x) (by simp)).symm
  subst hk
  have hri:=qvq hat
  have hZ:∀ o,Z g o=none:=fun o=>by
   cases hz:Z g o with
   |none=>rfl
   |some u=>have:=(hat.apart o (by rw [hz];simp)).1;rw [hsh] at this;cases this
  refine (qzv hri (by omega)).mono ?_
  rintro e w' ⟨rfl,hF,hr'⟩
  obtain ⟨w1,hW,hB,hE⟩:=qn4 hF hri.lt
  have hne:l.mergeSort leI≠[]:=fun e=>hl (by have:=congrArg List.length e;rw [List.length_mergeSort] at this;exact List.eq_nil_of_length_eq_zero this)
  have hat2:=qvp (s:=st.sh id) (hr'.same hE) hat.base hZ hne
  have hRw:=R.write (base:=id) (b':=.row ((l.mergeSort leI).map encI1)) (v:=.slice (some ⟨g,0,none⟩) n c) (sh':=st.sh) hes (by simp [blkOf,hmi]) hW (.inl rfl) (fun _ _ _ _=>rfl) (fun o u hz=>by rw [hZ o] at hz;cases hz) (fun _=>hmi) (.inr (.inl ⟨_,n,c,1,rfl,rfl,hat2⟩))
  rw [qn6 hmi,qn7] at hRw
  exact ⟨_,Z,m,rfl,ZUp.refl,hRw.later hB,.tup _ _ rfl (by simp),hG,hm⟩
 cases r0 with
 |row _ _ A c hmi hA =>
  rcases R.row id _ hes with ⟨h0,he⟩|⟨g,n',c',k,hm',hat⟩
  ·rw [hmi] at h0
   injection h0 with h0;injection h0 with a1 a2 a3
   subst a1 a2 a3
   exact nil0 _ rfl (List.map_eq_nil_iff.1 he)
  ·rw [hmi] at hm'
   injection hm' with hm';injection hm' with a1 a2 a3
   subst a1 a2 a3
   by_cases hl:l=[]
   ·have h0:n=0:=by have:=hat.len;rw [hl] at this;simpa using this.symm
    have hc:=hat.zero h0
    subst h0 hc
    exact nil0 _ rfl hl
   ·exact row0 g c k rfl hmi hat hl
 |row0 _ A hmi =>
  rcases R.row id _ hes with ⟨h0,he⟩|⟨g,n',c',k,hm',hat⟩
  ·exact nil0 _ rfl (List.map_eq_nil_iff.1 he)
  ·rw [hmi] at hm';cases hm'
end Go.Proofs.YtfakibajjibjjaaGreatDoor
namespace Go.Proofs.YtfakibajjibjjaaGreatDoor
open Go.RowKit
theorem qdv (r:Int) (h:128≤r):∃ l:List UInt8,∃ x:UInt8,Utf8.encode r=⟨(l++[x]).toArray⟩∧128≤x.toNat∧1≤l.length∧l.length≤3:=by
 have hc:128≤(if Utf8.valid r then r.toNat else Utf8.runeError)∧(if Utf8.valid r then r.toNat else Utf8.runeError)<2097152:=by
  split
  ·rename_i hv
   unfold Utf8.valid at hv
   simp at hv
   omega
  ·unfold Utf8.runeError;omega
 unfold Utf8.encode
 simp only
 generalize (if Utf8.valid r then r.toNat else Utf8.runeError)=c at hc
 have hb:∀ n,128≤(UInt8.ofNat (128+n % 64)).toNat:=by
  intro n
  rw [UInt8.toNat_ofNat']
  have:n % 64<64:=Nat.mod_lt _ (by decide)
  omega
 rw [if_neg (by omega)]
 split
 ·exact ⟨[_],_,rfl,hb _,by simp,by simp⟩
 ·split
  ·exact ⟨[_,_],_,rfl,hb _,by simp,by simp⟩
  ·exact ⟨[_,_,_],_,rfl,hb _,by simp,by simp⟩
theorem qc4 (s:ByteArray) (i:Nat) (hi:i<s.size) (h:128≤(s[i]'hi).toNat):128≤(Utf8.decode s i).1∧(Utf8.decode s i).1<2147483648∧1≤(Utf8.decode s i).2∧i+(Utf8.decode s i).2≤s.size∧∀ j (hj:j<s.size),i≤j→j<i+(Utf8.decode s i).2→128≤(s[j]'hj).toNat:=by
 have g:∀ j (hj:j<s.size),s.get! j=s[j]'hj:=by
  intro j hj
  simp [ByteArray.get!,getElem!_pos,hj]
  rfl
 have hone:∀ j (hj:j<s.size),i≤j→j<i+1→128≤(s[j]'hj).toNat:=by
  intro j hj h1 h2
  have:j=i:=by omega
  subst this
  exact h
 have hcont:∀ k,(decide (i+k<s.size)&&(s.get! (i+k)).toNat / 64==2)=true→∃ hk:i+k<s.size,128≤(s[i+k]'hk).toNat:=by
  intro k hk
  simp at hk
  refine ⟨hk.1,?_⟩
  have:=hk.2
  rw [g _ hk.1] at this
  omega
 have h0:(s.get! (i+0)).toNat=(s[i]'hi).toNat:=by rw [Nat.add_zero,g i hi]
 have herr:128≤Utf8.runeError∧Utf8.runeError<2147483648:=by unfold Utf8.runeError;omega
 unfold Utf8.decode
 simp only [h0]
 rw [if_neg (by omega)]
 split
 ·rename_i hh
  rw [Bool.and_eq_true] at hh
  obtain ⟨k1,c1⟩:=hcont 1 hh.2
  split
  ·rename_i hc
   refine ⟨hc,?_,by simp,by simp;omega,?_⟩
   ·have:(s[i]'hi).toNat<256:=UInt8.toNat_lt _
    simp only
    have h1:=Nat.mod_lt (s[i]'hi).toNat (show 32>0 by decide)
    have h2:=Nat.mod_lt (s.get! (i+1)).toNat (show 64>0 by decide)
    omega
   ·intro j hj h1 h2
    simp only at h2
    rcases (by omega:j=i∨j=i+1) with rfl|rfl
    ·exact h
    ·exact c1
  ·exact ⟨herr.1,herr.2,by simp,by simp;omega,hone⟩
 ·split
  ·rename_i hh
   rw [Bool.and_eq_true,Bool.and_eq_true] at hh
   obtain ⟨k1,c1⟩:=hcont 1 hh.1.2
   obtain ⟨k2,c2⟩:=hcont 2 hh.2
   split
   ·rename_i hc
    rw [Bool.and_eq_true] at hc
    refine ⟨?_,?_,by simp,by simp;omega,?_⟩
    ·have:=of_decide_eq_true hc.1
     simp only
     omega
    ·simp only
     have h1:=Nat.mod_lt (s[i]'hi).toNat (show 16>0 by decide)
     have h2:=Nat.mod_lt (s.get! (i+1)).toNat (show 64>0 by decide)
     have h3:=Nat.mod_lt (s.get! (i+2)).toNat (show 64>0 by decide)
     omega
    ·intro j hj h1 h2
     simp only at h2
     rcases (by omega:j=i∨j=i+1∨j=i+2) with rfl|rfl|rfl
     ·exact h
     ·exact c1
     ·exact c2
   ·exact ⟨herr.1,herr.2,by simp,by simp;omega,hone⟩
  ·split
   ·rename_i hh
    rw [Bool.and_eq_true,Bool.and_eq_true,Bool.and_eq_true] at hh
    obtain ⟨k1,c1⟩:=hcont 1 hh.1.1.2
    obtain ⟨k2,c2⟩:=hcont 2 hh.1.2
    obtain ⟨k3,c3⟩:=hcont 3 hh.2
    split
    ·rename_i hc
     rw [Bool.and_eq_true] at hc
     refine ⟨?_,?_,by simp,by simp;omega,?_⟩
     ·have:=of_decide_eq_true hc.1
      simp only
      omega
     ·simp only
      have h1:=Nat.mod_lt (s[i]'hi).toNat (show 8>0 by decide)
      have h2:=Nat.mod_lt (s.get! (i+1)).toNat (show 64>0 by decide)
      have h3:=Nat.mod_lt (s.get! (i+2)).toNat (show 64>0 by decide)
      have h4:=Nat.mod_lt (s.get! (i+3)).toNat (show 64>0 by decide)
      omega
     ·intro j hj h1 h2
      simp only at h2
      rcases (by omega:j=i∨j=i+1∨j=i+2∨j=i+3) with rfl|rfl|rfl|rfl
      ·exact h
      ·exact c1
      ·exact c2
      ·exact c3
    ·exact ⟨herr.1,herr.2,by simp,by simp;omega,hone⟩
   ·exact ⟨herr.1,herr.2,by simp,by simp;omega,hone⟩
theorem qn0 (s:ByteArray) (c:Int) (w:World):Calls Tryz.prog 73 #[.string s,.int .u8 c] w fun e w'=>e=.returned (.int .i64 (Lib.indexByte s.data.toList c.toNat.toUInt8))∧w'=w:=Any.strings_IndexByte lays137 s c w
theorem q14z (r:Int) (w:World):Calls Tryz.prog 272 #[.int .i32 r] w fun e w'=>e=.returned (.bool (Lib.validRune r))∧w'=w:=Any.utf8_ValidRune lays119 r w
theorem qdw (r:Int) (h:128≤r):(∃ a x,Utf8.encode r=⟨#[a,x]⟩∧128≤x.toNat)∨(∃ a b x,Utf8.encode r=⟨#[a,b,x]⟩∧128≤x.toNat)∨∃ a b c x,Utf8.encode r=⟨#[a,b,c,x]⟩∧128≤x.toNat:=by
 obtain ⟨l,x,he,hx,h1,h2⟩:=qdv r h
 match l,h1,h2,he with
 |[a],_,_,he=>exact .inl ⟨a,x,he,hx⟩
 |[a,b],_,_,he=>exact .inr (.inl ⟨a,b,x,he,hx⟩)
 |[a,b,c],_,_,he=>exact .inr (.inr ⟨a,b,c,x,he,hx⟩)
theorem qn1 (s:ByteArray) (x:UInt8) (hs:s.data.toList.all (fun b=>decide (b.toNat<128))=true) (hx:128≤x.toNat) (w:World):Calls Tryz.prog 73 #[.string s,.int .u8 (x.toNat:Int)] w fun e w'=>e=.returned (.int .i64 (-1))∧w'=w:=by
 have h:=qn0 s (x.toNat:Int) w
 have hb:((x.toNat:Int)).toNat.toUInt8=x:=by simp
 have:Lib.indexByte s.data.toList x=-1:=by
  generalize s.data.toList=l at hs
  induction l with
  |nil=>rfl
  |cons b l ih =>
   rw [List.all_cons,Bool.and_eq_true] at hs
   have h1:=of_decide_eq_true hs.1
   have hne:(b==x)=false:=by
    rw [beq_eq_false_iff_ne]
    intro e
    subst e
    omega
   rw [Lib.indexByte,hne,ih hs.2]
   rfl
 rw [hb,this] at h
 exact h
theorem below_drewN' (w:World) (n:Nat):Below w.heap.size w (w.drewN n):=⟨rfl,rfl,rfl,Nat.le_refl _,fun _ _=>rfl⟩
theorem q6k (w:World) (o:Obj):Below w.heap.size w (w.alloc o):=(Below.refl _ w).alloc (Nat.le_refl _) o
set_option maxHeartbeats 4000000 in
set_option maxRecDepth 100000 in
theorem qn3 (r:Int) (h:128≤r) (w:World):Calls Tryz.prog 256 #[.string ⟨#[13,10,0]⟩,.int .i32 r] w fun e w'=>e=.returned (.int .i64 (-1))∧Below w.heap.size w w':=by
 have h0:(0:Int)≤r:=by omega
 have h1:¬ r<128:=by omega
 go_enter Tryz.func256,Tryz.ntmps256
 go_wp2_with (first
  |(go_at_call 272;refine (q14z r _).mono ?_;rintro e w2 ⟨rfl,rfl⟩)
  |go_in)
 ·-- the rune of an error: none of the three
  have n0:=fun ty=>run_next_ascii (P:=Tryz.prog) w ⟨#[13,10,0]⟩ 0 ty (by decide) (by decide)
  have n1:=fun ty=>run_next_ascii (P:=Tryz.prog) w ⟨#[13,10,0]⟩ 1 ty (by decide) (by decide)
  have n2:=fun ty=>run_next_ascii (P:=Tryz.prog) w ⟨#[13,10,0]⟩ 2 ty (by decide) (by decide)
  have n3:=fun ty=>run_next_end (P:=Tryz.prog) w ⟨#[13,10,0]⟩ 3 ty (by decide)
  refine wp_loop_rounds 4 ?_
  rw [rounds_succ]
  go_wp2
  rw [rounds_succ]
  go_wp2
  rw [rounds_succ]
  go_wp2
  rw [rounds_succ]
  go_wp2
  go_ret
  exact ⟨rfl,q6k _ _⟩
 ·go_ret
  exact ⟨rfl,Below.refl _ _⟩
 ·rcases qdw r h with ⟨a,x,he,hx⟩|⟨a,b,x,he,hx⟩|⟨a,b,c,x,he,hx⟩
  ·have d1:((10:Int) != (x.toNat:Int))=true:=by rw [bne_iff_ne];omega
   have d2:((0:Int) != (x.toNat:Int))=true:=by rw [bne_iff_ne];omega
   go_step3
   go_wp2
   refine wp_loop_rounds 1 ?_
   rw [rounds_succ]
   go_wp2
   go_step3
   go_wp2
   go_quiet (fail)
   go_wp2
   go_quiet ((go_at_call 73;exact (qn1 _ x (by decide) hx _).mono fun _ _ h=>⟨h.1,_,h.2⟩))
   go_wp2
   ·simp only [Exit.noGoto,Exit.inBlock,Exit.then]
    go_ret
    exact ⟨rfl,below_drewN' _ _⟩
   ·exfalso
    have hh:((10:Int) != (x.toNat:Int))=false:=by assumption
    exact absurd (d1.symm.trans hh) (by decide)
  ·have d1:((10:Int) != (x.toNat:Int))=true:=by rw [bne_iff_ne];omega
   have d2:((0:Int) != (x.toNat:Int))=true:=by rw [bne_iff_ne];omega
   go_step3
   go_wp2
   refine wp_loop_rounds 1 ?_
   rw [rounds_succ]
   go_wp2
   go_step3
   go_wp2
   go_quiet (fail)
   go_wp2
   go_quiet ((go_at_call 73;exact (qn1 _ x (by decide) hx _).mono fun _ _ h=>⟨h.1,_,h.2⟩))
   go_wp2
   ·simp only [Exit.noGoto,Exit.inBlock,Exit.then]
    go_ret
    exact ⟨rfl,below_drewN' _ _⟩
   ·exfalso
    have hh:((0:Int) != (x.toNat:Int))=false:=by assumption
    exact absurd (d2.symm.trans hh) (by decide)
  ·go_step3
   go_wp2
   refine wp_loop_rounds 1 ?_
   rw [rounds_succ]
   go_wp2
   rw [Exit.noGoto_ret]
   go_ret
   exact ⟨rfl,Below.refl _ _⟩
end Go.Proofs.YtfakibajjibjjaaGreatDoor
namespace Go.Proofs.YtfakibajjibjjaaGreatDoor
open Go.RowKit Go.ChangeMaps
theorem qwe {P:Program} (W:World) (r:Nat) (s:ByteArray) (pos:Nat) (h:W.heap[r]?=some (.stringIter s pos)) (hp:pos<s.size) (ty:TypeId) :
  (Instr.next (.pointer (some ⟨r,0,none⟩)) true ty).run P W=.ok (.tuple #[.bool true,.int .i64 pos,.int .i32 (Utf8.decode s pos).1]) (setBlock W r (.stringIter s (pos+(Utf8.decode s pos).2))):=by
 simp [Instr.next,getObj,setObj,Sem.run,h,hp,Result.andThen,goInt,setBlock]
theorem qwf {P:Program} (W:World) (r:Nat) (s:ByteArray) (pos:Nat) (h:W.heap[r]?=some (.stringIter s pos)) (hp:¬ pos<s.size) (ty:TypeId) :
  (Instr.next (.pointer (some ⟨r,0,none⟩)) true ty).run P W=.ok (.tuple #[.bool false]) W:=by
 simp [Instr.next,getObj,Sem.run,h,hp]
theorem qn2 (s:ByteArray) (r:Int) (w:World) (h0:0≤r) (h1:r<128):Calls Tryz.prog 256 #[.string s,.int .i32 r] w fun e w'=>e=.returned (.int .i64 (Lib.indexByte s.data.toList r.toNat.toUInt8))∧w'=w:=Any.strings_IndexRune_ascii lays152 s r w h0 h1
theorem qka (s chars:ByteArray) (w:World) (h2:2≤chars.size) (h8:8<s.size) (hs:s.size<4294967281) (hcs:chars.size<4294967281) (hascii:∀ (j:Nat) b,chars.data.toList[j]?=some b→b.toNat<128) :
  Calls Tryz.prog 240 #[.string s,.string chars] w fun e w'=>e=.returned (.int .i64 (Lib.indexAny s.data.toList chars.data.toList))∧Below w.heap.size w w':=by
 refine (Any.strings_IndexAny_long lays153 (fun w=>by kernel_rfl) (by kernel_rfl) s chars w h2 h8 hs hcs hascii).mono fun e w'=>?_
 rintro ⟨rfl,rfl⟩
 exact ⟨rfl,((Below.refl _ _).alloc (Nat.le_refl _) _).alloc (by simp) _⟩
theorem q110 (n:Int) (w:World):Calls Tryz.prog 257 #[.int .i64 n] w fun e w'=>e=.returned (.bool (decide (8<n)))∧w'=w:=Any.strings_shouldUseASCIISet { lays153 with } n w
theorem qsw {s:ByteArray} {i k:Nat} (h:Lib.NoAny s.data.toList crlf0 i) (hk:∀ j (hj:j<s.size),i≤j→j<k→crlf0.contains (s[j]'hj)=false):Lib.NoAny s.data.toList crlf0 k:=fun j b hj hb=>by
 by_cases e:j<i
 ·exact h j b e hb
 ·obtain ⟨hj2,hb2⟩:=List.getElem?_eq_some_iff.1 hb
  have hj3:j<s.size:=by rw [Array.length_toList] at hj2;exact hj2
  have:=hk j hj3 (by omega) hj
  rw [←hb2]
  exact this
theorem qaz (b:UInt8) (h:128≤b.toNat):crlf0.contains b=false:=by
 unfold crlf0
 have h1:b≠13:=fun e=>by subst e;revert h;decide
 have h2:b≠10:=fun e=>by subst e;revert h;decide
 have h3:b≠0:=fun e=>by subst e;revert h;decide
 simp [h1,h2,h3]
theorem q6m {B:Nat} {a w:World} (h:Below B a w) {r:Nat} (hr:B≤r) (o:Obj):Below B a (setBlock w r o) :=
 ⟨h.os,h.tape,h.output,by simp only [setBlock,Array.size_setIfInBounds];exact h.size,fun k hk=>by
  simp only [setBlock]
  rw [Array.getElem?_setIfInBounds_ne (by omega)]
  exact h.block k hk⟩
set_option maxHeartbeats 8000000 in
set_option maxRecDepth 1000000 in
theorem qkb (s:ByteArray) (w:World) (h8:s.size≤8) :
  Calls Tryz.prog 240 #[.string s,.string ⟨#[13,10,0]⟩] w fun e w'=>e=.returned (.int .i64 (Lib.indexAny s.data.toList crlf0))∧Below w.heap.size w w':=by
 have h8z:decide ((8:Int)<(s.size:Int))=false:=decide_eq_false (by omega)
 have hb0:Below w.heap.size w (w.iter s 0):=q6k _ _
 have hi0:=World.iter_heap w s 0
 go_enter Tryz.func240,Tryz.ntmps240
 go_wp2_with (go_at_call 257;refine (q110 _ _).mono ?_;rintro e w' ⟨rfl,hw⟩;rw [hw,h8z])
 go_loopg [9,10] s.size (fun g _ _ wx=>∃ i:Nat,i+g=s.size∧wx.heap[w.heap.size]?=some (.stringIter s i)∧Below w.heap.size w wx∧Lib.NoAny s.data.toList crlf0 i)
 case atStart=>exact ⟨0,by omega,hi0,hb0,Lib.NoAny.zero _ _⟩
 case round =>
  obtain ⟨i,hig,hit,hbel,hno⟩:=hrel
  cases gk with
  |zero =>
   obtain rfl:i=s.size:=by omega
   have hnx:=qwf (P:=Tryz.prog) wr w.heap.size s s.size hit (by omega)
   have hnone:Lib.indexAny s.data.toList crlf0=-1:=Lib.indexAny_none (by rw [Array.length_toList];exact hno)
   go_wp2
   go_ret
   exact ⟨by rw [hnone];rfl,hbel⟩
  |succ g =>
   have hi:i<s.size:=by omega
   have hnx:=qwe (P:=Tryz.prog) wr w.heap.size s i hit hi
   have hlt:=(Array.getElem?_eq_some_iff.1 hit).1
   by_cases hx:(s[i]'hi).toNat<128
   ·rw [decode_ascii s i hi hx] at hnx
    simp only at hnx
    have hset:(setBlock wr w.heap.size (.stringIter s (i+1))).heap[w.heap.size]?=some (.stringIter s (i+1)):=by
     simp only [setBlock]
     rw [Array.getElem?_setIfInBounds_self_of_lt hlt]
    have hb1:=q6m hbel (Nat.le_refl _) (.stringIter s (i+1))
    obtain ⟨x,hxe⟩:∃ x:UInt8,s[i]'hi=x:=⟨_,rfl⟩
    rw [hxe] at hnx hx
    have hxl:s.data.toList[i]?=some x:=by rw [←hxe];exact Lib.data_getElem? s i hi
    have hcon:=Lib.contains_iff_indexByte crlf0 x
    have hback:((x.toNat:Int)).toNat.toUInt8=x:=by simp
    have hr:=fun W=>qn2 ⟨#[13,10,0]⟩ (x.toNat:Int) W (by omega) (by omega)
    rw [hback] at hr
    have hcd:(⟨#[13,10,0]⟩:ByteArray).data.toList=crlf0:=rfl
    rw [hcd] at hr
    cases hin:crlf0.contains x with
    |false =>
     rw [hin] at hcon
     have hlt0:¬ ((0:Int)≤Lib.indexByte crlf0 x):=of_decide_eq_false hcon.symm
     have hno1:Lib.NoAny s.data.toList crlf0 (i+1):=hno.succ hxl hin
     clear hcon
     go_wp2_with (first
      |(go_at_call 256;refine (hr _).mono ?_;rintro e w' ⟨rfl,rfl⟩)
      |go_in)
     go_roundg g
     case measure=>omega
     case rel=>exact ⟨i+1,by omega,hset,hb1,hno1⟩
    |true =>
     rw [hin] at hcon
     have hge0:(0:Int)≤Lib.indexByte crlf0 x:=of_decide_eq_true hcon.symm
     have hhit:Lib.indexAny s.data.toList crlf0=i:=Lib.indexAny_hit hno hxl hin
     clear hcon
     go_wp2_with (first
      |(go_at_call 256;refine (hr _).mono ?_;rintro e w' ⟨rfl,rfl⟩)
      |go_in)
     go_ret
     exact ⟨by rw [hhit];rfl,hb1⟩
   ·obtain ⟨d1,d2,d3,d4,d5⟩:=qc4 s i hi (by omega)
    have hno1:Lib.NoAny s.data.toList crlf0 (i+(Utf8.decode s i).2):=qsw hno (fun j hj h1 h2=>qaz _ (d5 j hj h1 h2))
    generalize (Utf8.decode s i).1=c at hnx d1 d2
    generalize (Utf8.decode s i).2=k at hnx d3 d4 d5 hno1
    have hset:(setBlock wr w.heap.size (.stringIter s (i+k))).heap[w.heap.size]?=some (.stringIter s (i+k)):=by
     simp only [setBlock]
     rw [Array.getElem?_setIfInBounds_self_of_lt hlt]
    have hb1:=q6m hbel (Nat.le_refl _) (.stringIter s (i+k))
    have hsz1:w.heap.size<(setBlock wr w.heap.size (.stringIter s (i+k))).heap.size:=by simp only [setBlock,Array.size_setIfInBounds];exact hlt
    have hr:=fun W=>qn3 (c:Int) (by omega) W
    go_wp2_with (first
     |(go_at_call 256;refine (hr _).mono ?_;rintro e w' ⟨rfl,hbw⟩)
     |go_in)
    go_roundg (s.size - (i+k))
    case measure=>omega
    case rel=>exact ⟨i+k,by omega,by rw [hbw.block _ hsz1];exact hset,hb1.trans (hbw.mono (by omega)),hno1⟩
end Go.Proofs.YtfakibajjibjjaaGreatDoor
namespace Go.Proofs.YtfakibajjibjjaaGreatDoor
open Go.RowKit Go.Maps
def digL (l:List UInt8):Bool:=match l with
 |b::_=>decide (48≤b.toNat)&&decide (b.toNat≤57)
 |[]=>false
def pdL (k:Lit) (_:DataW Unit):Bool:=match k with
 |.string l=>digL l
 |_=>false
theorem qfx (l:List (ByteArray×ByteArray)):Lib.deleteFuncD pdL (datM l)=datM (l.filter fun p=>!digP p.1):=by
 unfold datM Lib.deleteFuncD
 simp only
 congr 1
 induction l with
 |nil=>rfl
 |cons p l ih =>
  rw [List.map_cons,List.filter_cons,List.filter_cons]
  have:(!pdL (litM p).1 (litM p).2)=!digP p.1:=rfl
  rw [this]
  cases !digP p.1 with
  |true=>simp [ih]
  |false=>simpa using ih
theorem qja (w:World) (row:Option Nat):w.grownBy w row:=⟨rfl,rfl,rfl,Nat.le_refl _,fun _ _ _=>rfl⟩
theorem qcf (k:ByteArray) (h:0<k.size):digP k=(decide ((48:Int)≤(k[0].toNat:Int))&&decide ((k[0].toNat:Int)≤57)):=by
 obtain ⟨⟨l⟩⟩:=k
 cases l with
 |nil=>cases h
 |cons b l =>
  show (decide (48≤b.toNat)&&decide (b.toNat≤57))=(decide ((48:Int)≤(b.toNat:Int))&&decide ((b.toNat:Int)≤57))
  rw [Bool.eq_iff_iff]
  simp
  omega
set_option maxRecDepth 100000 in
theorem qcg (k v:ByteArray) (hk:k.size≠0) (w:World):Calls Tryz.prog 209 #[.string k,.string v] w fun e w'=>e=.returned (.bool (digP k))∧w.grownBy w' none:=by
 have hp:=qcf k (by omega)
 go_enter Tryz.func209,Tryz.ntmps209
 go_wp2
 ·go_ret
  refine ⟨?_,qja _ _⟩
  first|rw [hp]|skip
  rename_i h
  simp [h]
 ·go_ret
  refine ⟨?_,qja _ _⟩
  first|rw [hp]|skip
  rename_i h
  have:decide ((48:Int)≤(k[0].toNat:Int))=false:=decide_eq_false (by omega)
  rw [this]
  rfl
set_option maxRecDepth 100000 in
theorem RM_inv {v:Value} {y:DataW Unit×List MemPlace} (h:RM Tryz.prog 9 v=some y):∃ s,v=.string s:=by
 unfold RM plainElem at h
 rw [Tryz.underlying9] at h
 cases v <;> simp at h
 exact ⟨_,rfl⟩
set_option maxHeartbeats 4000000 in
set_option maxRecDepth 100000 in
theorem qcd (b n:Nat) (l:List (ByteArray×ByteArray)) (w:World) (hown:w.ownsMap Tryz.prog 9 (RM Tryz.prog 9) b n (datM l)) (hne:∀ p∈l,p.1.size≠0) :
  Calls Tryz.prog 208 #[.map (some b),.func (.func 209) #[] #[]] w fun e w'=>e=.returned (.tuple #[])∧w'.ownsMap Tryz.prog 9 (RM Tryz.prog 9) b n (datM (l.filter fun p=>!digP p.1))∧w.grownBy w' (some b):=by
 have K:=Maps.string_keyed Tryz.underlying9
 have hu:Tryz.prog.underlying 160=some (.map 9 9):=Tryz.underlying160
 obtain ⟨es0,hes,hap,hkeys⟩:=hown.entries K
 have hes':l.map litM=es0:=by unfold datM at hes;injection hes
 have hcalls:=qcg
 have hfin:=qfx l
 rw [hes] at hown hfin
 have hin:∀ (k:ByteArray),Maps.has (.map es0) (.string k.data.toList)=true→k.size≠0:=by
  intro k hk
  rw [Maps.has_eq,List.any_eq_true] at hk
  obtain ⟨p,hp,hs⟩:=hk
  rw [←hes',List.mem_map] at hp
  obtain ⟨q,hq,rfl⟩:=hp
  have h0:=hne q hq
  have e:q.1.data.toList=k.data.toList:=by simpa [litM,Lit.sameKey] using hs
  have e2:q.1.data.toList.length=q.1.size:=by rw [Array.length_toList];rfl
  have e3:k.data.toList.length=k.size:=by rw [Array.length_toList];rfl
  rw [←e3,←e,e2]
  exact h0
 rw [←hfin]
 clear hfin
 go_enter Tryz.func208,Tryz.ntmps208
 go_wp2_with (first
  |(at_range;refine wpList_range_own _ rfl _ 160 rfl 9 9 K hu _ b n _ rfl hown ?_;intro w0 hrg0 hg0 hs0)
  |go_in)
 go_frame
 go_loopw [8] (fun _ wr=>∃ (left:Lit→Bool) (cnt:Nat),wr.ranges Tryz.prog 9 (RM Tryz.prog 9) b w.heap.size n (Fk pdL es0 left) left cnt∧w.grownBy wr (some b)∧∀ kl,left kl=true→Maps.has (.map es0) kl=true)
  (fun _ wr=>wr.rangeLeft b w.heap.size)
 case atStart=>exact ⟨_,_,by rw [Fk_start hkeys];exact hrg0,hg0.but _,fun _ h=>h⟩
 case round =>
  obtain ⟨left,cnt,hrg,hgw,hlf⟩:=hrel
  go_wp2_with (first
   |(at_next;refine wpList_next_ranges _ rfl _ rfl 9 K (RM Tryz.prog 9) Value.string Value.string (fun key kl h=>by obtain ⟨s,e,_⟩:=(qnc Tryz.underlying9 _ _).1 h;exact ⟨s,e⟩) (fun v y h=>RM_inv h) b w.heap.size n _ _ _ rfl hrg ?_ ?_)
   |go_in)
  ·intro _ hl0
   go_wp2
   go_end0
   exact ⟨rfl,by rw [←Fk_end hl0];exact hrg.owns,hgw⟩
  ·intro k v kl yd yp w1 cnt1 hkey hlx hv hat hrg1 hlt hg1 hs1 hen
   have hgw1:=hgw.andThen hg1 (fun j hj=>by cases hj;exact Or.inl (Nat.le_refl _))
   obtain ⟨k',ek,hks,rfl⟩:=(qnc Tryz.underlying9 _ _).1 hkey
   cases ek
   have hk0:=hin k (hlf _ hlx)
   have hc:=hcalls k v hk0 w1
   have hbl:=hrg1.owns.lt
   have hrl:=hrg1.lt
   have hpe:pdL (.string k.data.toList) yd=digP k:=rfl
   cases hp:digP k <;> rw [hp] at hc hpe
   ·go_wp2_with (first
     |(go_at_call 209;refine hc.mono ?_;rintro e w2 ⟨rfl,hg2⟩)
     |go_in)
    have hrg2:=hrg1.kept hg2 (by simp) (by simp)
    go_roundw
    case rel=>exact ⟨_,cnt1,by rw [←Fk_stays hap (kl:=.string k.data.toList) trivial hlx hpe hat];exact hrg2,hgw1.andThen hg2 (fun j hj=>by cases hj),fun z hz=>hlf z (by simp at hz;exact hz.1)⟩
    case measure=>rw [hrg2.left_eq,hrg.left_eq];exact hlt
   ·go_wp2_with (first
     |(go_at_call 209;refine hc.mono ?_;rintro e w2 ⟨rfl,hg2⟩;have hrg2:=hrg1.kept hg2 (by simp) (by simp))
     |(at_delete;refine wpList_delete_ranges _ rfl _ _ 160 9 rfl 9 K hu (RM Tryz.prog 9) b w.heap.size n _ _ _ rfl hrg2 _ _ rfl hkey ?_;intro w3 cnt3 hrg3 hle hturn;go_frame)
     |go_in)
    rw [strike_twice] at hrg3
    go_roundw
    case rel=>exact ⟨_,cnt3,by rw [←Fk_struck hap (kl:=.string k.data.toList) trivial hlx hpe hat];exact hrg3,(hgw1.andThen hg2 (fun j hj=>by cases hj)).andThen hturn.grown (fun j hj=>by cases hj;exact Or.inr rfl),fun z hz=>hlf z (by simp at hz;exact hz.1)⟩
    case measure=>rw [hrg3.left_eq,hrg.left_eq];omega
end Go.Proofs.YtfakibajjibjjaaGreatDoor
