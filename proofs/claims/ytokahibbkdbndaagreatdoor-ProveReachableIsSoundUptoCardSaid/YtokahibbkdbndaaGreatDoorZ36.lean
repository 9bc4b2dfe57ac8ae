/- Tests and rules that the caller hands in, opened. -/
import Derived.Test.YtokahibbkdbndaaGreatDoorZ35
import Derived.Test.YtokahibbkdbndaaGreatDoorZ31
import Derived.Shelf.Strings.Builder1
import Derived.Shelf.Small.Utf8
import Derived.Shelf.Small.Strs
import Derived.Shelf.Strconv.Itoa0
import Derived.Shelf.Strconv.Itoa1
import Derived.Shelf.LaysM
import Derived.Shelf.Strconv.Itoa2
import Derived.Shelf.Strconv.Itoa3
import Derived.Shelf.Strings.Search1
import Derived.Shelf.Strings.Search2
import Derived.Shelf.Strings.Search3
import Derived.Shelf.Strings.Cut
import Derived.Shelf.Strings.Shaped
import Derived.Shelf.Strings.Runes
import Derived.Shelf.Strings.IndexAny
import Derived.Shelf.Strings.AsciiSet
import Derived.Shelf.Strings.IndexAnyAll
import Derived.Test.YtokahibbkdbndaaGreatDoorZ01
import Derived.Test.YtokahibbkdbndaaGreatDoorChecked
namespace Go.Proofs.YtokahibbkdbndaaGreatDoor
open Go.ChangeShapes Go.WideShapes Go.ChangeAt Go.RowKit Go.Deep
theorem six {α:Type} {l:List α} (h:l.length=6):∃ a b c d e f,l=[a,b,c,d,e,f]:=by
 match l,h with
 | [a,b,c,d,e,f],_=>exact ⟨a,b,c,d,e,f,rfl⟩
theorem eight {α:Type} {l:List α} (h:l.length=8):∃ a b c d e f g i,l=[a,b,c,d,e,f,g,i]:=by
 match l,h with
 | [a,b,c,d,e,f,g,i],_=>exact ⟨a,b,c,d,e,f,g,i,rfl⟩
theorem thirteen {α:Type} {l:List α} (h:l.length=13):∃ a b c d e f g i j k m n o,l=[a,b,c,d,e,f,g,i,j,k,m,n,o]:=by
 match l,h with
 | [a,b,c,d,e,f,g,i,j,k,m,n,o],_=>exact ⟨a,b,c,d,e,f,g,i,j,k,m,n,o,rfl⟩
section
variable {H:Type} {enc:TypeId × Value→H} {w:World}
def RT (a:S48) (d:DataW H):Prop:=tzT a≤Rows.uptoBulk d∧okT a
theorem all2_T:∀ {l:List S48} {ds:List (DataW H)},All2 RT l ds→tzL l≤Rows.uptoBulkAll ds∧okTL l∧l.length=ds.length
 | [],[],_=>⟨Nat.zero_le _,trivial,rfl⟩
 | a::l,d::ds,h=>by
  obtain ⟨h1,h2,h3⟩:=all2_T h.2
  refine ⟨?_,⟨h.1.2,h2⟩,by simp [h3]⟩
  have:=h.1.1
  simp only [tzL,Rows.uptoBulkAll]
  omega
 | [],_::_,h=>h.elim
 | _::_,[],h=>h.elim
set_option maxRecDepth 100000 in
theorem open_T:∀ (B fuel:Nat) (cs:List Value) (y:DataW H × List MemPlace),Rows.uptoBulk y.1=B→B≤2000000→DataW.trod enc Tryz.prog w 0 (fun _=>true) true fuel 48 cs=some y→∃ a:S48,RepL (Zw w) cs (ec_48.enc a)∧RT a y.1:=by
 intro B
 induction B using Nat.strongRecOn with
 | _ B ih =>
  intro fuel cs y hB hb hy
  obtain ⟨xs,n,_,hx,hl,hxl,hf⟩:=DataW.trod_struct Tryz.underlying48 hy
  have hc:Tryz.prog.cellsOf 48=6:=by kernel_rfl
  have c1:Tryz.prog.cellsOf 3=1:=by kernel_rfl
  have c2:Tryz.prog.cellsOf 9=1:=by kernel_rfl
  have c3:Tryz.prog.cellsOf 46=1:=by kernel_rfl
  rw [hc] at hl
  obtain ⟨u0,u1,u2,u3,u4,u5,rfl⟩:=six hl
  obtain ⟨x0,x1,x2,x3,x4,x5,rfl⟩:=six hxl
  have h0:DataW.trod enc Tryz.prog w 0 (fun _=>true) true n 3 [u0]=some x0:=by have:=hf 0 _ rfl;simpa [c1] using this
  have h1:DataW.trod enc Tryz.prog w 0 (fun _=>true) true n 46 [u1]=some x1:=by have:=hf 1 _ rfl;simpa [c3] using this
  have h2:DataW.trod enc Tryz.prog w 0 (fun _=>true) true n 9 [u2]=some x2:=by have:=hf 2 _ rfl;simpa [c2] using this
  have h3:DataW.trod enc Tryz.prog w 0 (fun _=>true) true n 3 [u3]=some x3:=by have:=hf 3 _ rfl;simpa [c1] using this
  have h4:DataW.trod enc Tryz.prog w 0 (fun _=>true) true n 9 [u4]=some x4:=by have:=hf 4 _ rfl;simpa [c2] using this
  have h5:DataW.trod enc Tryz.prog w 0 (fun _=>true) true n 3 [u5]=some x5:=by have:=hf 5 _ rfl;simpa [c1] using this
  obtain ⟨a0,e0,_,_⟩:=DataW.trod_int Tryz.underlying3 h0
  obtain ⟨a2,e2,_,_⟩:=DataW.trod_string Tryz.underlying9 h2
  obtain ⟨a3,e3,_,_⟩:=DataW.trod_int Tryz.underlying3 h3
  obtain ⟨a4,e4,_,_⟩:=DataW.trod_string Tryz.underlying9 h4
  obtain ⟨a5,e5,_,_⟩:=DataW.trod_int Tryz.underlying3 h5
  injection e0 with e0;injection e2 with e2;injection e3 with e3;injection e4 with e4;injection e5 with e5
  subst e0 e2 e3 e4 e5
  have hbulk:Rows.uptoBulk x1.1<B:=by
   rw [← hB,hx]
   simp only [Rows.uptoBulk,List.map_cons,Rows.uptoBulkAll]
   omega
  obtain ⟨l,ds,rc,hsum,h2'⟩:=qtc (k:=6) ec_48 RT Tryz.underlying46 (by kernel_rfl) (by decide) h1 (fun fuel cs y hlt hy=>ih _ (by omega) fuel cs y rfl (by omega) hy)
  obtain ⟨g1,g2,g3⟩:=all2_T h2'
  refine ⟨⟨a0,l,a2,a3,a4,a5⟩,?_,?_,?_⟩
  ·rw [enc_48]
   exact ⟨.int _ _,rc,.str _,.int _ _,.str _,.int _ _,trivial⟩
  ·rw [tzT_eq,hB]
   show 1+tzL l≤B
   omega
  ·have:=q74 ds
   exact (okT_eq _).2 ⟨by show l.length≤big;unfold big;omega,g2⟩
def RR (a:S50) (d:DataW H):Prop:=tsz a≤Rows.uptoBulk d∧okR a
theorem all2_R:∀ {l:List S50} {ds:List (DataW H)},All2 RR l ds→tszL l≤Rows.uptoBulkAll ds∧okL l∧l.length=ds.length
 | [],[],_=>⟨Nat.zero_le _,trivial,rfl⟩
 | a::l,d::ds,h=>by
  obtain ⟨h1,h2,h3⟩:=all2_R h.2
  refine ⟨?_,⟨h.1.2,h2⟩,by simp [h3]⟩
  have:=h.1.1
  simp only [tszL,Rows.uptoBulkAll]
  omega
 | [],_::_,h=>h.elim
 | _::_,[],h=>h.elim
set_option maxRecDepth 100000 in
theorem open_R:∀ (B fuel:Nat) (cs:List Value) (y:DataW H × List MemPlace),Rows.uptoBulk y.1=B→B≤2000000→DataW.trod enc Tryz.prog w 0 (fun _=>true) true fuel 50 cs=some y→∃ a:S50,RepL (Zw w) cs (ec_50.enc a)∧RR a y.1:=by
 intro B
 induction B using Nat.strongRecOn with
 | _ B ih =>
  intro fuel cs y hB hb hy
  obtain ⟨xs,n,_,hx,hl,hxl,hf⟩:=DataW.trod_struct Tryz.underlying50 hy
  have hc:Tryz.prog.cellsOf 50=13:=by kernel_rfl
  have c1:Tryz.prog.cellsOf 3=1:=by kernel_rfl
  have c2:Tryz.prog.cellsOf 9=1:=by kernel_rfl
  have c3:Tryz.prog.cellsOf 22=1:=by kernel_rfl
  have c4:Tryz.prog.cellsOf 48=6:=by kernel_rfl
  rw [hc] at hl
  obtain ⟨u0,u1,u2,u3,u4,u5,u6,u7,u8,u9,u10,u11,u12,rfl⟩:=thirteen hl
  obtain ⟨x0,x1,x2,x3,x4,x5,x6,x7,rfl⟩:=eight hxl
  have h0:DataW.trod enc Tryz.prog w 0 (fun _=>true) true n 3 [u0]=some x0:=by have:=hf 0 _ rfl;simpa [c1] using this
  have h1:DataW.trod enc Tryz.prog w 0 (fun _=>true) true n 48 [u1,u2,u3,u4,u5,u6]=some x1:=by have:=hf 1 _ rfl;simpa [c4] using this
  have h2:DataW.trod enc Tryz.prog w 0 (fun _=>true) true n 22 [u7]=some x2:=by have:=hf 2 _ rfl;simpa [c3] using this
  have h3:DataW.trod enc Tryz.prog w 0 (fun _=>true) true n 22 [u8]=some x3:=by have:=hf 3 _ rfl;simpa [c3] using this
  have h4:DataW.trod enc Tryz.prog w 0 (fun _=>true) true n 3 [u9]=some x4:=by have:=hf 4 _ rfl;simpa [c1] using this
  have h5:DataW.trod enc Tryz.prog w 0 (fun _=>true) true n 9 [u10]=some x5:=by have:=hf 5 _ rfl;simpa [c2] using this
  have h6:DataW.trod enc Tryz.prog w 0 (fun _=>true) true n 9 [u11]=some x6:=by have:=hf 6 _ rfl;simpa [c2] using this
  have h7:DataW.trod enc Tryz.prog w 0 (fun _=>true) true n 3 [u12]=some x7:=by have:=hf 7 _ rfl;simpa [c1] using this
  obtain ⟨a0,e0,_,_⟩:=DataW.trod_int Tryz.underlying3 h0
  obtain ⟨a4,e4,_,_⟩:=DataW.trod_int Tryz.underlying3 h4
  obtain ⟨a5,e5,z5,_⟩:=DataW.trod_string Tryz.underlying9 h5
  obtain ⟨a6,e6,_,_⟩:=DataW.trod_string Tryz.underlying9 h6
  obtain ⟨a7,e7,_,_⟩:=DataW.trod_int Tryz.underlying3 h7
  injection e0 with e0;injection e4 with e4;injection e5 with e5;injection e6 with e6;injection e7 with e7
  subst e0 e4 e5 e6 e7
  have hall:Rows.uptoBulk x1.1+Rows.uptoBulk x2.1+Rows.uptoBulk x3.1+Rows.uptoBulk x5.1<B:=by
   rw [← hB,hx]
   simp only [Rows.uptoBulk,List.map_cons,Rows.uptoBulkAll]
   omega
  have h5b:a5.size<B:=by
   have:Rows.uptoBulk x5.1=a5.data.toList.length+1:=by rw [z5];simp only [Rows.uptoBulk]
   rw [Array.length_toList] at this
   have e:a5.data.size=a5.size:=rfl
   omega
  obtain ⟨t,rt,ht1,ht2⟩:=open_T _ n _ x1 rfl (by omega) h1
  obtain ⟨l,ds,rc,hsum,h2'⟩:=qtc (k:=13) ec_50 RR Tryz.underlying22 (by kernel_rfl) (by decide) h2 (fun fuel cs y hlt hy=>ih _ (by omega) fuel cs y rfl (by omega) hy)
  obtain ⟨g1,g2,g3⟩:=all2_R h2'
  obtain ⟨l',ds',rc',hsum',h3'⟩:=qtc (k:=13) ec_50 RR Tryz.underlying22 (by kernel_rfl) (by decide) h3 (fun fuel cs y hlt hy=>ih _ (by omega) fuel cs y rfl (by omega) hy)
  obtain ⟨g1',g2',g3'⟩:=all2_R h3'
  have hlen:=q74 ds
  have hlen':=q74 ds'
  rw [enc_48] at rt
  obtain ⟨r1,r2,r3,r4,r5,r6,_⟩:=rt
  obtain ⟨o1,o2⟩:=(okT_eq t).1 ht2
  refine ⟨⟨a0,t.Kind,t.Tests,t.Name,t.Pattern,t.Text,t.N,l,l',a4,a5,a6,a7⟩,?_,?_,?_⟩
  ·rw [enc_50]
   exact ⟨.int _ _,r1,r2,r3,r4,r5,r6,rc,rc',.int _ _,.str _,.str _,.int _ _,trivial⟩
  ·rw [tsz_eq,hB]
   show tzT ⟨t.Kind,t.Tests,t.Name,t.Pattern,t.Text,t.N⟩+tszL l+tszL l'≤B
   rw [eta_T]
   omega
  ·refine (okR_eq _).2 ⟨⟨o1,o2⟩,⟨?_,g2⟩,⟨?_,g2'⟩,?_⟩
   ·show l.length≤big;unfold big;omega
   ·show l'.length≤big;unfold big;omega
   ·show a5.size≤big;unfold big;omega
set_option maxRecDepth 100000 in
theorem qpr {d:DataW H} {p:List MemPlace} {v:Value} (hv:∃ a n c,v=.slice a n c) (hb:Rows.uptoBulk d≤1048576) (h:DataW.Trod enc Tryz.prog w 0 (fun _=>true) true 22 v d p) :
  ∃ l:List S50,RepC (Zw w) v (.sl (ec_50.encL l))∧okL l∧l.length≤1048576∧tszL l≤1048576:=by
 obtain ⟨a,n,c,rfl⟩:=hv
 obtain ⟨fuel,hf⟩:=h
 obtain ⟨l,ds,rc,hsum,h2'⟩:=qtc (k:=13) ec_50 RR Tryz.underlying22 (by kernel_rfl) (by decide) hf (fun fuel cs y hlt hy=>open_R _ fuel cs y rfl (by simp only at hlt;omega) hy)
 obtain ⟨g1,g2,g3⟩:=all2_R h2'
 have hlen:=q74 ds
 simp only at hsum
 exact ⟨l,rc,g2,by omega,by omega⟩
theorem two {α:Type} {l:List α} (h:l.length=2):∃ a b,l=[a,b]:=by
 match l,h with
 | [a,b],_=>exact ⟨a,b,rfl⟩
theorem three {α:Type} {l:List α} (h:l.length=3):∃ a b c,l=[a,b,c]:=by
 match l,h with
 | [a,b,c],_=>exact ⟨a,b,c,rfl⟩
theorem five {α:Type} {l:List α} (h:l.length=5):∃ a b c d e,l=[a,b,c,d,e]:=by
 match l,h with
 | [a,b,c,d,e],_=>exact ⟨a,b,c,d,e,rfl⟩
theorem qxi {a:ByteArray} {x:DataW H × List MemPlace} {q:List MemPlace} (h:x=(.lit (.string a.data.toList),q)):a.size+1=Rows.uptoBulk x.1:=by
 subst h
 simp only [Rows.uptoBulk,Array.length_toList]
 rfl
theorem qpp {fuel:Nat} {cs:List Value} {y:DataW H × List MemPlace} (hb:Rows.uptoBulk y.1≤2000000) (h:DataW.trod enc Tryz.prog w 0 (fun _=>true) true fuel 118 cs=some y) :
  ∃ a:S118,RepL (Zw w) cs (ec_118.enc a)∧a.Address.size≤2000000:=by
 obtain ⟨xs,n,_,hx,hl,hxl,hf⟩:=DataW.trod_struct Tryz.underlying118 h
 have hc:Tryz.prog.cellsOf 118=2:=by kernel_rfl
 have c1:Tryz.prog.cellsOf 3=1:=by kernel_rfl
 have c2:Tryz.prog.cellsOf 9=1:=by kernel_rfl
 rw [hc] at hl
 obtain ⟨u0,u1,rfl⟩:=two hl
 obtain ⟨x0,x1,rfl⟩:=two hxl
 have h0:DataW.trod enc Tryz.prog w 0 (fun _=>true) true n 9 [u0]=some x0:=by have:=hf 0 _ rfl;simpa [c2] using this
 have h1:DataW.trod enc Tryz.prog w 0 (fun _=>true) true n 3 [u1]=some x1:=by have:=hf 1 _ rfl;simpa [c1] using this
 obtain ⟨a0,e0,z0,_⟩:=DataW.trod_string Tryz.underlying9 h0
 obtain ⟨a1,e1,_,_⟩:=DataW.trod_int Tryz.underlying3 h1
 injection e0 with e0;injection e1 with e1
 subst e0 e1
 have hs:=qxi z0
 have hbulk:Rows.uptoBulk x0.1≤2000000:=by
  rw [hx] at hb
  simp only [Rows.uptoBulk,List.map_cons,Rows.uptoBulkAll] at hb
  omega
 refine ⟨⟨a0,a1⟩,?_,?_⟩
 ·rw [q9o]
  exact ⟨.str _,.int _ _,trivial⟩
 ·show a0.size≤2000000
  omega
theorem qpn {fuel:Nat} {cs:List Value} {y:DataW H × List MemPlace} (h:DataW.trod enc Tryz.prog w 0 (fun _=>true) true fuel 55 cs=some y) :
  ∃ a:S55,RepL (Zw w) cs (ec_55.enc a)∧True:=by
 obtain ⟨xs,n,_,hx,hl,hxl,hf⟩:=DataW.trod_struct Tryz.underlying55 h
 have hc:Tryz.prog.cellsOf 55=2:=by kernel_rfl
 have c2:Tryz.prog.cellsOf 9=1:=by kernel_rfl
 rw [hc] at hl
 obtain ⟨u0,u1,rfl⟩:=two hl
 obtain ⟨x0,x1,rfl⟩:=two hxl
 have h0:DataW.trod enc Tryz.prog w 0 (fun _=>true) true n 9 [u0]=some x0:=by have:=hf 0 _ rfl;simpa [c2] using this
 have h1:DataW.trod enc Tryz.prog w 0 (fun _=>true) true n 9 [u1]=some x1:=by have:=hf 1 _ rfl;simpa [c2] using this
 obtain ⟨a0,e0,z0,_⟩:=DataW.trod_string Tryz.underlying9 h0
 obtain ⟨a1,e1,_,_⟩:=DataW.trod_string Tryz.underlying9 h1
 injection e0 with e0;injection e1 with e1
 subst e0 e1
 refine ⟨⟨a0,a1⟩,?_,trivial⟩
 rw [enc_55]
 exact ⟨.str _,.str _,trivial⟩
theorem qpm {fuel:Nat} {cs:List Value} {y:DataW H × List MemPlace} (h:DataW.trod enc Tryz.prog w 0 (fun _=>true) true fuel 5 cs=some y) :
  ∃ a:Int,RepL (Zw w) cs (ec_5.enc a)∧True:=by
 obtain ⟨a0,e0,_,_⟩:=DataW.trod_int Tryz.underlying5 h
 subst e0
 exact ⟨a0,⟨.int _ _,trivial⟩,trivial⟩
theorem qy {R:S118→Prop}:∀ {l:List S118} {ds:List (DataW H)},All2 (fun a _=>R a) l ds→(∀ x∈l,R x)∧l.length=ds.length
 | [],[],_=>⟨by simp,rfl⟩
 | a::l,d::ds,h=>by
  obtain ⟨h1,h2⟩:=qy h.2
  exact ⟨fun x hx=>by rcases List.mem_cons.1 hx with rfl | hx;exact h.1;exact h1 x hx,by simp [h2]⟩
 | [],_::_,h=>h.elim
 | _::_,[],h=>h.elim
theorem qw {α β:Type} {R:α→β→Prop}:∀ {l:List α} {m:List β},All2 R l m→l.length=m.length
 | [],[],_=>rfl
 | _::l,_::m,h=>by simp [qw h.2]
 | [],_::_,h=>h.elim
 | _::_,[],h=>h.elim
structure LOk (f:ByteArray) (rc:List S118) (bd:List Int):Prop where
 fr:f.size≤2000000
 rl:rc.length≤2000000
 ad:∀ x∈rc,x.Address.size≤2000000
 bl:bd.length≤2000000
theorem LOk.mok {s:List S50} {f:ByteArray} {rc:List S118} {bd:List Int} (h:LOk f rc bd) (hs:okL s) (hl:s.length≤big):MOk s f rc bd:=⟨hl,hs,h.fr,h.rl,h.ad,h.bl⟩
set_option maxRecDepth 100000 in
theorem qpo {d:DataW H} {p:List MemPlace} {v:Value} (hv:∃ cs:Array Value,v=.agg cs∧cs.size=Tryz.prog.cellsOf 31) (hb:Rows.uptoBulk d≤1048576) (h:DataW.Trod enc Tryz.prog w 0 (fun _=>true) true 31 v d p) :
  ∃ (f:ByteArray) (rc:List S118) (e:ByteArray) (fs:List S55) (bd:List Int),Rep (Zw w) (fun _ _=>none) noM v (.agg [.c (.str f),.c (.sl (ec_118.encL rc)),.c (.str e),.c (.sl (ec_55.encL fs)),.c (.sl (ec_5.encL bd))])∧LOk f rc bd∧fs.length≤1048576:=by
 obtain ⟨cs,rfl,hsz⟩:=hv
 obtain ⟨fuel,h⟩:=h
 obtain ⟨xs,n,_,hx,hl,hxl,hf⟩:=DataW.trod_struct Tryz.underlying31 h
 have hc:Tryz.prog.cellsOf 31=5:=by kernel_rfl
 have c1:Tryz.prog.cellsOf 25=3:=by kernel_rfl
 have c2:Tryz.prog.cellsOf 29=2:=by kernel_rfl
 have c3:Tryz.prog.cellsOf 9=1:=by kernel_rfl
 have c4:Tryz.prog.cellsOf 23=1:=by kernel_rfl
 have c5:Tryz.prog.cellsOf 26=1:=by kernel_rfl
 have c6:Tryz.prog.cellsOf 27=1:=by kernel_rfl
 rw [hc] at hl
 obtain ⟨l⟩:=cs
 obtain ⟨u0,u1,u2,u3,u4,rfl⟩:=five hl
 obtain ⟨x0,x1,rfl⟩:=two hxl
 have h0:DataW.trod enc Tryz.prog w 0 (fun _=>true) true n 25 [u0,u1,u2]=some x0:=by have:=hf 0 _ rfl;simpa [Value.cells,c1] using this
 have h1:DataW.trod enc Tryz.prog w 0 (fun _=>true) true n 29 [u3,u4]=some x1:=by have:=hf 1 _ rfl;simpa [Value.cells,c2] using this
 obtain ⟨ys,n1,_,hy,hyl,hyn,hg⟩:=DataW.trod_struct Tryz.underlying25 h0
 obtain ⟨zs,n2,_,hz,hzl,hzn,hk⟩:=DataW.trod_struct Tryz.underlying29 h1
 obtain ⟨y0,y1,y2,rfl⟩:=three hyn
 obtain ⟨z0,z1,rfl⟩:=two hzn
 have g0:DataW.trod enc Tryz.prog w 0 (fun _=>true) true n1 9 [u0]=some y0:=by have:=hg 0 _ rfl;simpa [c3] using this
 have g1:DataW.trod enc Tryz.prog w 0 (fun _=>true) true n1 23 [u1]=some y1:=by have:=hg 1 _ rfl;simpa [c4] using this
 have g2:DataW.trod enc Tryz.prog w 0 (fun _=>true) true n1 9 [u2]=some y2:=by have:=hg 2 _ rfl;simpa [c3] using this
 have k0:DataW.trod enc Tryz.prog w 0 (fun _=>true) true n2 26 [u3]=some z0:=by have:=hk 0 _ rfl;simpa [c5] using this
 have k1:DataW.trod enc Tryz.prog w 0 (fun _=>true) true n2 27 [u4]=some z1:=by have:=hk 1 _ rfl;simpa [c6] using this
 obtain ⟨a0,e0,b0,_⟩:=DataW.trod_string Tryz.underlying9 g0
 obtain ⟨a2,e2,b2,_⟩:=DataW.trod_string Tryz.underlying9 g2
 injection e0 with e0;injection e2 with e2
 subst e0 e2
 have hs0:=qxi b0
 have hall:Rows.uptoBulk y0.1+Rows.uptoBulk y1.1+Rows.uptoBulk z0.1+Rows.uptoBulk z1.1≤1048576:=by
  have ed:=congrArg Prod.fst hx
  simp only [List.map_cons,List.map_nil] at ed
  rw [ed,hy,hz] at hb
  simp only [Rows.uptoBulk,List.map_cons,List.map_nil,Rows.uptoBulkAll] at hb
  omega
 obtain ⟨rc,ds,r1,hsum,q1⟩:=qtc (k:=2) ec_118 (fun a _=>a.Address.size≤2000000) Tryz.underlying23 (by kernel_rfl) (by decide) g1 (fun fuel cs y hlt hy=>qpp (by omega) hy)
 obtain ⟨fs,ds',r3,hsum',q3⟩:=qtc (k:=2) ec_55 (fun _ _=>True) Tryz.underlying26 (by kernel_rfl) (by decide) k0 (fun fuel cs y hlt hy=>qpn hy)
 obtain ⟨bd,ds2,r4,hsum2,q4⟩:=qtc (k:=1) ec_5 (fun _ _=>True) Tryz.underlying27 (by kernel_rfl) (by decide) k1 (fun fuel cs y hlt hy=>qpm hy)
 obtain ⟨q5,q6⟩:=qy q1
 have q7:=qw q3
 have q8:=qw q4
 have w1:=q74 ds
 have w2:=q74 ds'
 have w3:=q74 ds2
 refine ⟨a0,rc,a2,fs,bd,RepL.agg (us:=[.string a0,u1,.string a2,u3,u4]) (xs:=[.str a0,.sl (ec_118.encL rc),.str a2,.sl (ec_55.encL fs),.sl (ec_5.encL bd)]) ⟨.str _,r1,.str _,r3,r4,trivial⟩,⟨by omega,by omega,q5,by omega⟩,by omega⟩
end
end Go.Proofs.YtokahibbkdbndaaGreatDoor
namespace Go.Proofs.YtokahibbkdbndaaGreatDoor
open Go.Shelf
set_option maxRecDepth 100000
def qmi:Go.Shelf.Ren:=⟨fun | 144=>143 | 143=>163 | 219=>158 | 217=>139 | 225=>168 | 224=>169 | 267=>170 | 266=>160 | 314=>176 | n=>n,fun | 9=>9 | 4=>4 | 3=>3 | 5=>5 | 46=>197 | 146=>205 | 51=>204 | n=>n,fun | 1=>0 | n=>n⟩
theorem lays144:Go.Proofs.Lays.n144 Tryz.prog qmi:={
 mixed:=by kernel_rfl
 f143:=Tryz.func163.trans (congrArg some (by kernel_rfl))
 f144:=Tryz.func143.trans (congrArg some (by kernel_rfl))
 f217:=Tryz.func139.trans (congrArg some (by kernel_rfl))
 f219:=Tryz.func158.trans (congrArg some (by kernel_rfl))
 f224:=Tryz.func169.trans (congrArg some (by kernel_rfl))
 f225:=Tryz.func168.trans (congrArg some (by kernel_rfl))
 f266:=Tryz.func160.trans (congrArg some (by kernel_rfl))
 f267:=Tryz.func170.trans (congrArg some (by kernel_rfl))
 f314:=Tryz.func176.trans (congrArg some (by kernel_rfl))
 t3:=Tryz.underlying3
 a3:=Tryz.isAgg3
 z3:=Tryz.sizeOf3
 v3:=Tryz.zeroValue3
 t4:=Tryz.underlying4
 a4:=Tryz.isAgg4
 z4:=Tryz.sizeOf4
 v4:=Tryz.zeroValue4
 t5:=Tryz.underlying5
 a5:=Tryz.isAgg5
 z5:=Tryz.sizeOf5
 v5:=Tryz.zeroValue5
 t9:=Tryz.underlying9
 a9:=Tryz.isAgg9
 z9:=Tryz.sizeOf9
 v9:=Tryz.zeroValue9
 t46:=Tryz.underlying197
 a46:=Tryz.isAgg197
 z46:=Tryz.sizeOf197
 v46:=Tryz.zeroValue197
 t51:=Tryz.underlying204
 a51:=Tryz.isAgg204
 z51:=Tryz.sizeOf204
 v51:=Tryz.zeroValue204
 t146:=Tryz.underlying205
 a146:=Tryz.isAgg205
 z146:=Tryz.sizeOf205
 v146:=Tryz.zeroValue205
 g1:=by kernel_rfl }
def qmo:Go.Shelf.Ren:=⟨fun | 144=>143 | 143=>163 | 219=>158 | 217=>139 | 225=>168 | 224=>169 | 267=>170 | 266=>160 | 314=>176 | n=>n,fun | 9=>9 | 4=>4 | 3=>3 | 5=>5 | 46=>197 | 146=>205 | 51=>204 | n=>n,fun | 1=>0 | n=>n⟩
theorem laysM144:Go.Proofs.LaysM.n144 Tryz.prog qmo:={
 mixed:=by kernel_rfl
 f143:=Tryz.func163.trans (congrArg some (by kernel_rfl))
 f144:=Tryz.func143.trans (congrArg some (by kernel_rfl))
 f217:=Tryz.func139.trans (congrArg some (by kernel_rfl))
 f219:=Tryz.func158.trans (congrArg some (by kernel_rfl))
 f224:=Tryz.func169.trans (congrArg some (by kernel_rfl))
 f225:=Tryz.func168.trans (congrArg some (by kernel_rfl))
 f266:=Tryz.func160.trans (congrArg some (by kernel_rfl))
 f267:=Tryz.func170.trans (congrArg some (by kernel_rfl))
 f314:=Tryz.func176.trans (congrArg some (by kernel_rfl))
 t3:=Tryz.underlying3
 a3:=Tryz.isAgg3
 z3:=Tryz.sizeOf3
 v3:=Tryz.zeroValue3
 t4:=Tryz.underlying4
 a4:=Tryz.isAgg4
 z4:=Tryz.sizeOf4
 v4:=Tryz.zeroValue4
 t5:=Tryz.underlying5
 a5:=Tryz.isAgg5
 z5:=Tryz.sizeOf5
 v5:=Tryz.zeroValue5
 t9:=Tryz.underlying9
 a9:=Tryz.isAgg9
 z9:=Tryz.sizeOf9
 v9:=Tryz.zeroValue9
 t46:=Tryz.underlying197
 a46:=Tryz.isAgg197
 z46:=Tryz.sizeOf197
 v46:=Tryz.zeroValue197
 t51:=Tryz.underlying204
 a51:=Tryz.isAgg204
 z51:=Tryz.sizeOf204
 v51:=Tryz.zeroValue204
 t146:=Tryz.underlying205
 a146:=Tryz.isAgg205
 z146:=Tryz.sizeOf205
 v146:=Tryz.zeroValue205
 g1:=by kernel_rfl
 i3:=by kernel_rfl
 i4:=by kernel_rfl
 i5:=by kernel_rfl
 i9:=by kernel_rfl
 i46:=by kernel_rfl
 i51:=by kernel_rfl
 i146:=by kernel_rfl
 m1:=by kernel_rfl
 s1_3:=fun w h=>Go.Proofs.cell_of_shapedOpen_int (zero:=#[.int .i64 0]) (t:=3) h (of_decide_eq_true (by kernel_rfl)) (by kernel_rfl) rfl (by kernel_rfl) (by kernel_rfl) Tryz.underlying3 }
def qmj:Go.Shelf.Ren:=⟨fun | 145=>105 | 220=>136 | 219=>158 | 217=>139 | 225=>168 | 224=>169 | 267=>170 | 266=>160 | 314=>176 | n=>n,fun | 9=>9 | 4=>4 | 59=>136 | 3=>3 | 5=>5 | 46=>197 | 146=>205 | 51=>204 | n=>n,fun | 1=>0 | n=>n⟩
theorem lays145:Go.Proofs.Lays.n145 Tryz.prog qmj:={
 mixed:=by kernel_rfl
 f145:=Tryz.func105.trans (congrArg some (by kernel_rfl))
 f217:=Tryz.func139.trans (congrArg some (by kernel_rfl))
 f219:=Tryz.func158.trans (congrArg some (by kernel_rfl))
 f220:=Tryz.func136.trans (congrArg some (by kernel_rfl))
 f224:=Tryz.func169.trans (congrArg some (by kernel_rfl))
 f225:=Tryz.func168.trans (congrArg some (by kernel_rfl))
 f266:=Tryz.func160.trans (congrArg some (by kernel_rfl))
 f267:=Tryz.func170.trans (congrArg some (by kernel_rfl))
 f314:=Tryz.func176.trans (congrArg some (by kernel_rfl))
 t3:=Tryz.underlying3
 a3:=Tryz.isAgg3
 z3:=Tryz.sizeOf3
 v3:=Tryz.zeroValue3
 t4:=Tryz.underlying4
 a4:=Tryz.isAgg4
 z4:=Tryz.sizeOf4
 v4:=Tryz.zeroValue4
 t5:=Tryz.underlying5
 a5:=Tryz.isAgg5
 z5:=Tryz.sizeOf5
 v5:=Tryz.zeroValue5
 t9:=Tryz.underlying9
 a9:=Tryz.isAgg9
 z9:=Tryz.sizeOf9
 v9:=Tryz.zeroValue9
 t46:=Tryz.underlying197
 a46:=Tryz.isAgg197
 z46:=Tryz.sizeOf197
 v46:=Tryz.zeroValue197
 t51:=Tryz.underlying204
 a51:=Tryz.isAgg204
 z51:=Tryz.sizeOf204
 v51:=Tryz.zeroValue204
 t59:=Tryz.underlying136
 a59:=Tryz.isAgg136
 z59:=Tryz.sizeOf136
 v59:=Tryz.zeroValue136
 t146:=Tryz.underlying205
 a146:=Tryz.isAgg205
 z146:=Tryz.sizeOf205
 v146:=Tryz.zeroValue205
 g1:=by kernel_rfl }
def qmh:Go.Shelf.Ren:=⟨fun | 137=>112 | 217=>139 | 266=>160 | n=>n,fun | 9=>9 | 5=>5 | 3=>3 | n=>n,fun | n=>n⟩
theorem lays137:Go.Proofs.Lays.n137 Tryz.prog qmh:={
 mixed:=by kernel_rfl
 f137:=Tryz.func112.trans (congrArg some (by kernel_rfl))
 f217:=Tryz.func139.trans (congrArg some (by kernel_rfl))
 f266:=Tryz.func160.trans (congrArg some (by kernel_rfl))
 t3:=Tryz.underlying3
 a3:=Tryz.isAgg3
 z3:=Tryz.sizeOf3
 v3:=Tryz.zeroValue3
 t5:=Tryz.underlying5
 a5:=Tryz.isAgg5
 z5:=Tryz.sizeOf5
 v5:=Tryz.zeroValue5
 t9:=Tryz.underlying9
 a9:=Tryz.isAgg9
 z9:=Tryz.sizeOf9
 v9:=Tryz.zeroValue9 }
def qmg:Go.Shelf.Ren:=⟨fun | 119=>186 | n=>n,fun | 21=>21 | 4=>4 | n=>n,fun | n=>n⟩
theorem lays119:Go.Proofs.Lays.n119 Tryz.prog qmg:={
 mixed:=by kernel_rfl
 f119:=Tryz.func186.trans (congrArg some (by kernel_rfl))
 t4:=Tryz.underlying4
 a4:=Tryz.isAgg4
 z4:=Tryz.sizeOf4
 v4:=Tryz.zeroValue4
 t21:=Tryz.underlying21
 a21:=Tryz.isAgg21
 z21:=Tryz.sizeOf21
 v21:=Tryz.zeroValue21 }
def qmk:Go.Shelf.Ren:=⟨fun | 152=>177 | 137=>112 | 119=>186 | 224=>169 | 225=>168 | 217=>139 | 266=>160 | n=>n,fun | 9=>9 | 21=>21 | 3=>3 | 4=>4 | 5=>5 | 0=>0 | 46=>197 | n=>n,fun | n=>n⟩
theorem lays152:Go.Proofs.Lays.n152 Tryz.prog qmk:={
 mixed:=by kernel_rfl
 f119:=Tryz.func186.trans (congrArg some (by kernel_rfl))
 f137:=Tryz.func112.trans (congrArg some (by kernel_rfl))
 f152:=Tryz.func177.trans (congrArg some (by kernel_rfl))
 f217:=Tryz.func139.trans (congrArg some (by kernel_rfl))
 f224:=Tryz.func169.trans (congrArg some (by kernel_rfl))
 f225:=Tryz.func168.trans (congrArg some (by kernel_rfl))
 f266:=Tryz.func160.trans (congrArg some (by kernel_rfl))
 t0:=Tryz.underlying0
 a0:=Tryz.isAgg0
 z0:=Tryz.sizeOf0
 v0:=Tryz.zeroValue0
 t3:=Tryz.underlying3
 a3:=Tryz.isAgg3
 z3:=Tryz.sizeOf3
 v3:=Tryz.zeroValue3
 t4:=Tryz.underlying4
 a4:=Tryz.isAgg4
 z4:=Tryz.sizeOf4
 v4:=Tryz.zeroValue4
 t5:=Tryz.underlying5
 a5:=Tryz.isAgg5
 z5:=Tryz.sizeOf5
 v5:=Tryz.zeroValue5
 t9:=Tryz.underlying9
 a9:=Tryz.isAgg9
 z9:=Tryz.sizeOf9
 v9:=Tryz.zeroValue9
 t21:=Tryz.underlying21
 a21:=Tryz.isAgg21
 z21:=Tryz.sizeOf21
 v21:=Tryz.zeroValue21
 t46:=Tryz.underlying197
 a46:=Tryz.isAgg197
 z46:=Tryz.sizeOf197
 v46:=Tryz.zeroValue197 }
def qml:Go.Shelf.Ren:=⟨fun | 153=>171 | 152=>177 | 226=>178 | 227=>179 | 228=>180 | 137=>112 | 119=>186 | 224=>169 | 225=>168 | 217=>139 | 266=>160 | n=>n,fun | 9=>9 | 3=>3 | 4=>4 | 5=>5 | 21=>21 | 117=>210 | 116=>209 | 0=>0 | 46=>197 | 124=>217 | n=>n,fun | n=>n⟩
theorem lays153:Go.Proofs.Lays.n153 Tryz.prog qml:={
 mixed:=by kernel_rfl
 f119:=Tryz.func186.trans (congrArg some (by kernel_rfl))
 f137:=Tryz.func112.trans (congrArg some (by kernel_rfl))
 f152:=Tryz.func177.trans (congrArg some (by kernel_rfl))
 f153:=Tryz.func171.trans (congrArg some (by kernel_rfl))
 f217:=Tryz.func139.trans (congrArg some (by kernel_rfl))
 f224:=Tryz.func169.trans (congrArg some (by kernel_rfl))
 f225:=Tryz.func168.trans (congrArg some (by kernel_rfl))
 f226:=Tryz.func178.trans (congrArg some (by kernel_rfl))
 f227:=Tryz.func179.trans (congrArg some (by kernel_rfl))
 f228:=Tryz.func180.trans (congrArg some (by kernel_rfl))
 f266:=Tryz.func160.trans (congrArg some (by kernel_rfl))
 t0:=Tryz.underlying0
 a0:=Tryz.isAgg0
 z0:=Tryz.sizeOf0
 v0:=Tryz.zeroValue0
 t3:=Tryz.underlying3
 a3:=Tryz.isAgg3
 z3:=Tryz.sizeOf3
 v3:=Tryz.zeroValue3
 t4:=Tryz.underlying4
 a4:=Tryz.isAgg4
 z4:=Tryz.sizeOf4
 v4:=Tryz.zeroValue4
 t5:=Tryz.underlying5
 a5:=Tryz.isAgg5
 z5:=Tryz.sizeOf5
 v5:=Tryz.zeroValue5
 t9:=Tryz.underlying9
 a9:=Tryz.isAgg9
 z9:=Tryz.sizeOf9
 v9:=Tryz.zeroValue9
 t21:=Tryz.underlying21
 a21:=Tryz.isAgg21
 z21:=Tryz.sizeOf21
 v21:=Tryz.zeroValue21
 t46:=Tryz.underlying197
 a46:=Tryz.isAgg197
 z46:=Tryz.sizeOf197
 v46:=Tryz.zeroValue197
 t116:=Tryz.underlying209
 a116:=Tryz.isAgg209
 z116:=Tryz.sizeOf209
 t117:=Tryz.underlying210
 a117:=Tryz.isAgg210
 z117:=Tryz.sizeOf210
 v117:=Tryz.zeroValue210
 t124:=Tryz.underlying217
 a124:=Tryz.isAgg217
 z124:=Tryz.sizeOf217
 v124:=Tryz.zeroValue217 }
def qmp:Go.Shelf.Ren:=⟨fun | 171=>134 | 243=>156 | 246=>166 | 283=>172 | 284=>173 | 285=>174 | 286=>175 | 129=>182 | 317=>181 | 318=>183 | 319=>184 | 320=>185 | 337=>187 | 338=>188 | n=>n,fun | 3=>3 | 9=>9 | 2=>2 | 4=>4 | 171=>198 | 0=>0 | 53=>199 | 37=>27 | 5=>5 | 173=>202 | 212=>213 | 51=>204 | 20=>20 | 213=>214 | 46=>197 | 232=>219 | 233=>220 | n=>n,fun | 17=>1 | 18=>2 | 19=>3 | n=>n⟩
theorem laysM171:Go.Proofs.LaysM.n171 Tryz.prog qmp:={
 mixed:=by kernel_rfl
 f129:=Tryz.func182.trans (congrArg some (by kernel_rfl))
 f171:=Tryz.func134.trans (congrArg some (by kernel_rfl))
 f243:=Tryz.func156.trans (congrArg some (by kernel_rfl))
 f246:=Tryz.func166.trans (congrArg some (by kernel_rfl))
 f283:=Tryz.func172.trans (congrArg some (by kernel_rfl))
 f284:=Tryz.func173.trans (congrArg some (by kernel_rfl))
 f285:=Tryz.func174.trans (congrArg some (by kernel_rfl))
 f286:=Tryz.func175.trans (congrArg some (by kernel_rfl))
 f317:=Tryz.func181.trans (congrArg some (by kernel_rfl))
 f318:=Tryz.func183.trans (congrArg some (by kernel_rfl))
 f319:=Tryz.func184.trans (congrArg some (by kernel_rfl))
 f320:=Tryz.func185.trans (congrArg some (by kernel_rfl))
 f337:=Tryz.func187.trans (congrArg some (by kernel_rfl))
 f338:=Tryz.func188.trans (congrArg some (by kernel_rfl))
 t0:=Tryz.underlying0
 a0:=Tryz.isAgg0
 z0:=Tryz.sizeOf0
 v0:=Tryz.zeroValue0
 t2:=Tryz.underlying2
 a2:=Tryz.isAgg2
 z2:=Tryz.sizeOf2
 v2:=Tryz.zeroValue2
 t3:=Tryz.underlying3
 a3:=Tryz.isAgg3
 z3:=Tryz.sizeOf3
 v3:=Tryz.zeroValue3
 t4:=Tryz.underlying4
 a4:=Tryz.isAgg4
 z4:=Tryz.sizeOf4
 v4:=Tryz.zeroValue4
 t5:=Tryz.underlying5
 a5:=Tryz.isAgg5
 z5:=Tryz.sizeOf5
 v5:=Tryz.zeroValue5
 t9:=Tryz.underlying9
 a9:=Tryz.isAgg9
 z9:=Tryz.sizeOf9
 v9:=Tryz.zeroValue9
 t20:=Tryz.underlying20
 a20:=Tryz.isAgg20
 z20:=Tryz.sizeOf20
 v20:=Tryz.zeroValue20
 t37:=Tryz.underlying27
 a37:=Tryz.isAgg27
 z37:=Tryz.sizeOf27
 v37:=Tryz.zeroValue27
 t46:=Tryz.underlying197
 a46:=Tryz.isAgg197
 z46:=Tryz.sizeOf197
 v46:=Tryz.zeroValue197
 t51:=Tryz.underlying204
 a51:=Tryz.isAgg204
 z51:=Tryz.sizeOf204
 v51:=Tryz.zeroValue204
 t53:=Tryz.underlying199
 a53:=Tryz.isAgg199
 z53:=Tryz.sizeOf199
 v53:=Tryz.zeroValue199
 t171:=Tryz.underlying198
 a171:=Tryz.isAgg198
 z171:=Tryz.sizeOf198
 v171:=Tryz.zeroValue198
 t173:=Tryz.underlying202
 a173:=Tryz.isAgg202
 z173:=Tryz.sizeOf202
 v173:=Tryz.zeroValue202
 t212:=Tryz.underlying213
 a212:=Tryz.isAgg213
 z212:=Tryz.sizeOf213
 v212:=Tryz.zeroValue213
 t213:=Tryz.underlying214
 a213:=Tryz.isAgg214
 z213:=Tryz.sizeOf214
 t232:=Tryz.underlying219
 a232:=Tryz.isAgg219
 z232:=Tryz.sizeOf219
 v232:=Tryz.zeroValue219
 t233:=Tryz.underlying220
 a233:=Tryz.isAgg220
 z233:=Tryz.sizeOf220
 v233:=Tryz.zeroValue220
 g17:=by kernel_rfl
 g18:=by kernel_rfl
 g19:=by kernel_rfl
 i0:=by kernel_rfl
 i2:=by kernel_rfl
 i3:=by kernel_rfl
 i4:=by kernel_rfl
 i5:=by kernel_rfl
 i9:=by kernel_rfl
 i20:=by kernel_rfl
 i37:=by kernel_rfl
 i46:=by kernel_rfl
 i51:=by kernel_rfl
 i53:=by kernel_rfl
 i171:=by kernel_rfl
 i173:=by kernel_rfl
 i212:=by kernel_rfl
 i232:=by kernel_rfl
 i233:=by kernel_rfl
 m17:=by kernel_rfl
 m18:=by kernel_rfl
 m19:=by kernel_rfl }
def qmn:Go.Shelf.Ren:=⟨fun | 169=>107 | n=>n,fun | 70=>155 | 9=>9 | 0=>0 | 72=>157 | 37=>27 | 127=>178 | 3=>3 | 5=>5 | n=>n,fun | n=>n⟩
theorem lays169:Go.Proofs.Lays.n169 Tryz.prog qmn:={
 mixed:=by kernel_rfl
 f169:=Tryz.func107.trans (congrArg some (by kernel_rfl))
 t0:=Tryz.underlying0
 a0:=Tryz.isAgg0
 z0:=Tryz.sizeOf0
 v0:=Tryz.zeroValue0
 t3:=Tryz.underlying3
 a3:=Tryz.isAgg3
 z3:=Tryz.sizeOf3
 v3:=Tryz.zeroValue3
 t9:=Tryz.underlying9
 a9:=Tryz.isAgg9
 z9:=Tryz.sizeOf9
 v9:=Tryz.zeroValue9
 t37:=Tryz.underlying27
 a37:=Tryz.isAgg27
 z37:=Tryz.sizeOf27
 v37:=Tryz.zeroValue27
 t70:=Tryz.underlying155
 a70:=Tryz.isAgg155
 z70:=Tryz.sizeOf155
 v70:=Tryz.zeroValue155
 t72:=Tryz.underlying157
 a72:=Tryz.isAgg157
 z72:=Tryz.sizeOf157
 v72:=Tryz.zeroValue157
 t127:=Tryz.underlying178
 a127:=Tryz.isAgg178
 z127:=Tryz.sizeOf178
 v127:=Tryz.zeroValue178 }
theorem qa:Builder.Extra Tryz.prog qmn:={
 sizeBuilder:=by kernel_rfl
 liesBuilder:=by kernel_rfl
 t5:=Tryz.underlying5
 a5:=Tryz.isAgg5
 z5:=Tryz.sizeOf5
 v5:=Tryz.zeroValue5
 infoByte:=by kernel_rfl
 cellsByte:=by kernel_rfl
 sizeByte:=by kernel_rfl
 neB5:=by decide }
def qmm:Go.Shelf.Ren:=⟨fun | 166=>106 | 240=>137 | 276=>159 | n=>n,fun | 0=>0 | 3=>3 | 4=>4 | 9=>9 | 20=>20 | 37=>27 | 5=>5 | 70=>155 | 72=>157 | 75=>160 | 80=>163 | 164=>189 | n=>n,fun | n=>n⟩
theorem lays166:Go.Proofs.Lays.n166 Tryz.prog qmm:={
 mixed:=by kernel_rfl
 f166:=Tryz.func106.trans (congrArg some (by kernel_rfl))
 f240:=Tryz.func137.trans (congrArg some (by kernel_rfl))
 f276:=Tryz.func159.trans (congrArg some (by kernel_rfl))
 t0:=Tryz.underlying0
 a0:=Tryz.isAgg0
 z0:=Tryz.sizeOf0
 v0:=Tryz.zeroValue0
 t3:=Tryz.underlying3
 a3:=Tryz.isAgg3
 z3:=Tryz.sizeOf3
 v3:=Tryz.zeroValue3
 t4:=Tryz.underlying4
 a4:=Tryz.isAgg4
 z4:=Tryz.sizeOf4
 v4:=Tryz.zeroValue4
 t9:=Tryz.underlying9
 a9:=Tryz.isAgg9
 z9:=Tryz.sizeOf9
 v9:=Tryz.zeroValue9
 t20:=Tryz.underlying20
 a20:=Tryz.isAgg20
 z20:=Tryz.sizeOf20
 v20:=Tryz.zeroValue20
 t37:=Tryz.underlying27
 a37:=Tryz.isAgg27
 z37:=Tryz.sizeOf27
 v37:=Tryz.zeroValue27
 t70:=Tryz.underlying155
 a70:=Tryz.isAgg155
 z70:=Tryz.sizeOf155
 v70:=Tryz.zeroValue155
 t72:=Tryz.underlying157
 a72:=Tryz.isAgg157
 z72:=Tryz.sizeOf157
 v72:=Tryz.zeroValue157
 t75:=Tryz.underlying160
 a75:=Tryz.isAgg160
 z75:=Tryz.sizeOf160
 v75:=Tryz.zeroValue160
 t164:=Tryz.underlying189
 a164:=Tryz.isAgg189
 z164:=Tryz.sizeOf189
 v164:=Tryz.zeroValue189 }
theorem q9:Builder.Extra Tryz.prog qmm:={
 sizeBuilder:=by kernel_rfl
 liesBuilder:=by kernel_rfl
 t5:=Tryz.underlying5
 a5:=Tryz.isAgg5
 z5:=Tryz.sizeOf5
 v5:=Tryz.zeroValue5
 infoByte:=by kernel_rfl
 cellsByte:=by kernel_rfl
 sizeByte:=by kernel_rfl
 neB5:=by decide }
end Go.Proofs.YtokahibbkdbndaaGreatDoor
namespace Go.Proofs.YtokahibbkdbndaaGreatDoor
open Go.RowKit
theorem q9r (r:Int) (h:128≤r):∃ l:List UInt8,∃ x:UInt8,Utf8.encode r=⟨(l++[x]).toArray⟩∧128≤x.toNat∧1≤l.length∧l.length≤3:=by
 have hc:128≤(if Utf8.valid r then r.toNat else Utf8.runeError)∧(if Utf8.valid r then r.toNat else Utf8.runeError)<2097152:=by
  split
  ·rename_i hv
   unfold Utf8.valid at hv
   simp at hv
   omega
  ·unfold Utf8.runeError;omega
 unfold Utf8.encode
 simp only
 generalize (if Utf8.valid r then r.toNat else Utf8.runeError)=c at hc
 have hb:∀ n,128≤(UInt8.ofNat (128+n % 64)).toNat:=by
  intro n
  rw [UInt8.toNat_ofNat']
  have:n % 64<64:=Nat.mod_lt _ (by decide)
  omega
 rw [if_neg (by omega)]
 split
 ·exact ⟨[_],_,rfl,hb _,by simp,by simp⟩
 ·split
  ·exact ⟨[_,_],_,rfl,hb _,by simp,by simp⟩
  ·exact ⟨[_,_,_],_,rfl,hb _,by simp,by simp⟩
theorem q8w (s:ByteArray) (i:Nat) (hi:i<s.size) (h:128≤(s[i]'hi).toNat):128≤(Utf8.decode s i).1∧(Utf8.decode s i).1<2147483648∧1≤(Utf8.decode s i).2∧i+(Utf8.decode s i).2≤s.size∧∀ j (hj:j<s.size),i≤j→j<i+(Utf8.decode s i).2→128≤(s[j]'hj).toNat:=by
 have g:∀ j (hj:j<s.size),s.get! j=s[j]'hj:=by
  intro j hj
  simp [ByteArray.get!,getElem!_pos,hj]
  rfl
 have hone:∀ j (hj:j<s.size),i≤j→j<i+1→128≤(s[j]'hj).toNat:=by
  intro j hj h1 h2
  have:j=i:=by omega
  subst this
  exact h
 have hcont:∀ k,(decide (i+k<s.size)&&(s.get! (i+k)).toNat / 64==2)=true→∃ hk:i+k<s.size,128≤(s[i+k]'hk).toNat:=by
  intro k hk
  simp at hk
  refine ⟨hk.1,?_⟩
  have:=hk.2
  rw [g _ hk.1] at this
  omega
 have h0:(s.get! (i+0)).toNat=(s[i]'hi).toNat:=by rw [Nat.add_zero,g i hi]
 have herr:128≤Utf8.runeError∧Utf8.runeError<2147483648:=by unfold Utf8.runeError;omega
 unfold Utf8.decode
 simp only [h0]
 rw [if_neg (by omega)]
 split
 ·rename_i hh
  rw [Bool.and_eq_true] at hh
  obtain ⟨k1,c1⟩:=hcont 1 hh.2
  split
  ·rename_i hc
   refine ⟨hc,?_,by simp,by simp;omega,?_⟩
   ·have:(s[i]'hi).toNat<256:=UInt8.toNat_lt _
    simp only
    have h1:=Nat.mod_lt (s[i]'hi).toNat (show 32 > 0 by decide)
    have h2:=Nat.mod_lt (s.get! (i+1)).toNat (show 64 > 0 by decide)
    omega
   ·intro j hj h1 h2
    simp only at h2
    rcases (by omega:j=i∨j=i+1) with rfl | rfl
    ·exact h
    ·exact c1
  ·exact ⟨herr.1,herr.2,by simp,by simp;omega,hone⟩
 ·split
  ·rename_i hh
   rw [Bool.and_eq_true,Bool.and_eq_true] at hh
   obtain ⟨k1,c1⟩:=hcont 1 hh.1.2
   obtain ⟨k2,c2⟩:=hcont 2 hh.2
   split
   ·rename_i hc
    rw [Bool.and_eq_true] at hc
    refine ⟨?_,?_,by simp,by simp;omega,?_⟩
    ·have:=of_decide_eq_true hc.1
     simp only
     omega
    ·simp only
     have h1:=Nat.mod_lt (s[i]'hi).toNat (show 16 > 0 by decide)
     have h2:=Nat.mod_lt (s.get! (i+1)).toNat (show 64 > 0 by decide)
     have h3:=Nat.mod_lt (s.get! (i+2)).toNat (show 64 > 0 by decide)
     omega
    ·intro j hj h1 h2
     simp only at h2
     rcases (by omega:j=i∨j=i+1∨j=i+2) with rfl | rfl | rfl
     ·exact h
     ·exact c1
     ·exact c2
   ·exact ⟨herr.1,herr.2,by simp,by simp;omega,hone⟩
  ·split
   ·rename_i hh
    rw [Bool.and_eq_true,Bool.and_eq_true,Bool.and_eq_true] at hh
    obtain ⟨k1,c1⟩:=hcont 1 hh.1.1.2
    obtain ⟨k2,c2⟩:=hcont 2 hh.1.2
    obtain ⟨k3,c3⟩:=hcont 3 hh.2
    split
    ·rename_i hc
     rw [Bool.and_eq_true] at hc
     refine ⟨?_,?_,by simp,by simp;omega,?_⟩
     ·have:=of_decide_eq_true hc.1
      simp only
      omega
     ·simp only
      have h1:=Nat.mod_lt (s[i]'hi).toNat (show 8 > 0 by decide)
      have h2:=Nat.mod_lt (s.get! (i+1)).toNat (show 64 > 0 by decide)
      have h3:=Nat.mod_lt (s.get! (i+2)).toNat (show 64 > 0 by decide)
      have h4:=Nat.mod_lt (s.get! (i+3)).toNat (show 64 > 0 by decide)
      omega
     ·intro j hj h1 h2
      simp only at h2
      rcases (by omega:j=i∨j=i+1∨j=i+2∨j=i+3) with rfl | rfl | rfl | rfl
      ·exact h
      ·exact c1
      ·exact c2
      ·exact c3
    ·exact ⟨herr.1,herr.2,by simp,by simp;omega,hone⟩
   ·exact ⟨herr.1,herr.2,by simp,by simp;omega,hone⟩
end Go.Proofs.YtokahibbkdbndaaGreatDoor
