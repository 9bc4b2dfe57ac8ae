/- Tests and rules that the caller hands in, opened. -/
import Derived.Test.YtognhcibcocbkaaGreatDoorZ33
import Derived.Test.YtognhcibcocbkaaGreatDoorZ27
import Derived.Shelf.Strings.Builder1
import Derived.Shelf.Strings.Builder2
import Derived.Shelf.Strings.OnBuilder
import Derived.Shelf.Small.Strs
import Derived.Shelf.Strings.BuilderF
import Derived.Shelf.Utf8.RuneCount
import Derived.Shelf.Strings.Builder2Cap
import Derived.Shelf.Strconv.Atoi
import Derived.Shelf.Strconv.Itoa0
import Derived.Shelf.Strconv.Itoa1
import Derived.Shelf.LaysM
import Derived.Shelf.Strconv.Itoa2
import Derived.Shelf.Strconv.Itoa3
import Derived.Shelf.Strconv.AtoiErrFast
import Derived.Shelf.Strconv.ParseIntEmpty
import Derived.Shelf.Strconv.AtoiFail
import Derived.Shelf.Strconv.Clone
import Derived.Shelf.Strconv.SyntaxError
import Derived.Shelf.LaysC
import Derived.Shelf.Strconv.ToError
import Derived.Shelf.Strconv.Lower
import Derived.Shelf.Strconv.ParseUint10
import Derived.Shelf.Strconv.ParseUint10Empty
import Derived.Shelf.Strconv.ParseUint10Any
import Derived.Shelf.Strconv.ParseInt10
import Derived.Shelf.Strconv.AtoiLong
import Derived.Shelf.Strconv.AtoiInnerAll
import Derived.Shelf.Strconv.RangeError
import Derived.Shelf.Strconv.ToErrorRange
import Derived.Shelf.Strconv.AtoiAll
import Derived.Shelf.Strings.Search1
import Derived.Shelf.Strings.Search2
import Derived.Shelf.Strings.Search3
import Derived.Shelf.Strings.Count
import Derived.Shelf.Strings.Shaped
import Derived.Shelf.Strings.Prefix
import Derived.Shelf.Strings.Split
import Derived.Shelf.Strings.RuneCount
import Derived.Shelf.Bits.Mul64
import Derived.Shelf.Strings.Repeat
import Derived.Test.YtognhcibcocbkaaGreatDoorZ01
import Derived.Test.YtognhcibcocbkaaGreatDoorChecked
import Derived.Tactics
import Derived.Tactics2
import Derived.Defers
import Derived.Laws.Pointers
import Derived.Laws.LoneSync
import Derived.RegionTactic
import Derived.RegionCalls
import Derived.ChangeAlike
import Derived.WalkKit
namespace Go.Proofs.YtognhcibcocbkaaGreatDoor
open Go.ChangeShapes Go.WideShapes Go.ChangeAt Go.RowKit Go.Deep
theorem six {α:Type} {l:List α} (h:l.length=6):∃ a b c d e f,l=[a,b,c,d,e,f]:=by
 match l,h with
 |[a,b,c,d,e,f],_=>exact ⟨a,b,c,d,e,f,rfl⟩
theorem eight {α:Type} {l:List α} (h:l.length=8):∃ a b c d e f g i,l=[a,b,c,d,e,f,g,i]:=by
 match l,h with
 |[a,b,c,d,e,f,g,i],_=>exact ⟨a,b,c,d,e,f,g,i,rfl⟩
theorem thirteen {α:Type} {l:List α} (h:l.length=13):∃ a b c d e f g i j k m n o,l=[a,b,c,d,e,f,g,i,j,k,m,n,o]:=by
 match l,h with
 |[a,b,c,d,e,f,g,i,j,k,m,n,o],_=>exact ⟨a,b,c,d,e,f,g,i,j,k,m,n,o,rfl⟩
section
variable {H:Type} {enc:TypeId×Value→H} {w:World}
def RT (a:S57) (d:DataW H):Prop:=tzT a≤Rows.uptoBulk d∧okT a
theorem all2_T:∀ {l:List S57} {ds:List (DataW H)},All2 RT l ds→tzL l≤Rows.uptoBulkAll ds∧okTL l∧l.length=ds.length
 |[],[],_=>⟨Nat.zero_le _,trivial,rfl⟩
 |a::l,d::ds,h=>by
  obtain ⟨h1,h2,h3⟩:=all2_T h.2
  refine ⟨?_,⟨h.1.2,h2⟩,by simp [h3]⟩
  have:=h.1.1
  simp only [tzL,Rows.uptoBulkAll]
  omega
 |[],_::_,h=>h.elim
 |_::_,[],h=>h.elim
set_option maxRecDepth 100000 in
theorem open_T:∀ (B fuel:Nat) (cs:List Value) (y:DataW H×List MemPlace),Rows.uptoBulk y.1=B→B≤2000000→DataW.trod enc Tryz.prog w 0 (fun _=>true) true fuel 57 cs=some y→∃ a:S57,RepL (Zw w) cs (q5k.enc a)∧RT a y.1:=by
 intro B
 induction B using Nat.strongRecOn with
 |_ B ih =>
  intro fuel cs y hB hb hy
  obtain ⟨xs,n,_,hx,hl,hxl,hf⟩:=DataW.trod_struct Tryz.underlying57 hy
  have hc:Tryz.prog.cellsOf 57=6:=by kernel_rfl
  have c1:Tryz.prog.cellsOf 3=1:=by kernel_rfl
  have c2:Tryz.prog.cellsOf 9=1:=by kernel_rfl
  have c3:Tryz.prog.cellsOf 55=1:=by kernel_rfl
  rw [hc] at hl
  obtain ⟨u0,u1,u2,u3,u4,u5,rfl⟩:=six hl
  obtain ⟨x0,x1,x2,x3,x4,x5,rfl⟩:=six hxl
  have h0:DataW.trod enc Tryz.prog w 0 (fun _=>true) true n 3 [u0]=some x0:=by have:=hf 0 _ rfl;simpa [c1] using this
  have h1:DataW.trod enc Tryz.prog w 0 (fun _=>true) true n 55 [u1]=some x1:=by have:=hf 1 _ rfl;simpa [c3] using this
  have h2:DataW.trod enc Tryz.prog w 0 (fun _=>true) true n 9 [u2]=some x2:=by have:=hf 2 _ rfl;simpa [c2] using this
  have h3:DataW.trod enc Tryz.prog w 0 (fun _=>true) true n 3 [u3]=some x3:=by have:=hf 3 _ rfl;simpa [c1] using this
  have h4:DataW.trod enc Tryz.prog w 0 (fun _=>true) true n 9 [u4]=some x4:=by have:=hf 4 _ rfl;simpa [c2] using this
  have h5:DataW.trod enc Tryz.prog w 0 (fun _=>true) true n 3 [u5]=some x5:=by have:=hf 5 _ rfl;simpa [c1] using this
  obtain ⟨a0,e0,_,_⟩:=DataW.trod_int Tryz.underlying3 h0
  obtain ⟨a2,e2,_,_⟩:=DataW.trod_string Tryz.underlying9 h2
  obtain ⟨a3,e3,_,_⟩:=DataW.trod_int Tryz.underlying3 h3
  obtain ⟨a4,e4,_,_⟩:=DataW.trod_string Tryz.underlying9 h4
  obtain ⟨a5,e5,_,_⟩:=DataW.trod_int Tryz.underlying3 h5
  injection e0 with e0;injection e2 with e2;injection e3 with e3;injection e4 with e4;injection e5 with e5
  subst e0 e2 e3 e4 e5
  have hbulk:Rows.uptoBulk x1.1<B:=by
   rw [←hB,hx]
   simp only [Rows.uptoBulk,List.map_cons,Rows.uptoBulkAll]
   omega
  obtain ⟨l,ds,rc,hsum,h2'⟩:=qgr (k:=6) q5k RT Tryz.underlying55 (by kernel_rfl) (by decide) h1 (fun fuel cs y hlt hy=>ih _ (by omega) fuel cs y rfl (by omega) hy)
  obtain ⟨g1,g2,g3⟩:=all2_T h2'
  refine ⟨⟨a0,l,a2,a3,a4,a5⟩,?_,?_,?_⟩
  ·rw [q5z]
   exact ⟨.int _ _,rc,.str _,.int _ _,.str _,.int _ _,trivial⟩
  ·rw [tzT_eq,hB]
   show 1+tzL l≤B
   omega
  ·have:=q3u ds
   exact (qdl _).2 ⟨by show l.length≤big;unfold big;omega,g2⟩
def RR (a:S59) (d:DataW H):Prop:=tsz a≤Rows.uptoBulk d∧okR a
theorem all2_R:∀ {l:List S59} {ds:List (DataW H)},All2 RR l ds→tszL l≤Rows.uptoBulkAll ds∧okL l∧l.length=ds.length
 |[],[],_=>⟨Nat.zero_le _,trivial,rfl⟩
 |a::l,d::ds,h=>by
  obtain ⟨h1,h2,h3⟩:=all2_R h.2
  refine ⟨?_,⟨h.1.2,h2⟩,by simp [h3]⟩
  have:=h.1.1
  simp only [tszL,Rows.uptoBulkAll]
  omega
 |[],_::_,h=>h.elim
 |_::_,[],h=>h.elim
set_option maxRecDepth 100000 in
theorem open_R:∀ (B fuel:Nat) (cs:List Value) (y:DataW H×List MemPlace),Rows.uptoBulk y.1=B→B≤2000000→DataW.trod enc Tryz.prog w 0 (fun _=>true) true fuel 59 cs=some y→∃ a:S59,RepL (Zw w) cs (q5l.enc a)∧RR a y.1:=by
 intro B
 induction B using Nat.strongRecOn with
 |_ B ih =>
  intro fuel cs y hB hb hy
  obtain ⟨xs,n,_,hx,hl,hxl,hf⟩:=DataW.trod_struct Tryz.underlying59 hy
  have hc:Tryz.prog.cellsOf 59=13:=by kernel_rfl
  have c1:Tryz.prog.cellsOf 3=1:=by kernel_rfl
  have c2:Tryz.prog.cellsOf 9=1:=by kernel_rfl
  have c3:Tryz.prog.cellsOf 22=1:=by kernel_rfl
  have c4:Tryz.prog.cellsOf 57=6:=by kernel_rfl
  rw [hc] at hl
  obtain ⟨u0,u1,u2,u3,u4,u5,u6,u7,u8,u9,u10,u11,u12,rfl⟩:=thirteen hl
  obtain ⟨x0,x1,x2,x3,x4,x5,x6,x7,rfl⟩:=eight hxl
  have h0:DataW.trod enc Tryz.prog w 0 (fun _=>true) true n 3 [u0]=some x0:=by have:=hf 0 _ rfl;simpa [c1] using this
  have h1:DataW.trod enc Tryz.prog w 0 (fun _=>true) true n 57 [u1,u2,u3,u4,u5,u6]=some x1:=by have:=hf 1 _ rfl;simpa [c4] using this
  have h2:DataW.trod enc Tryz.prog w 0 (fun _=>true) true n 22 [u7]=some x2:=by have:=hf 2 _ rfl;simpa [c3] using this
  have h3:DataW.trod enc Tryz.prog w 0 (fun _=>true) true n 22 [u8]=some x3:=by have:=hf 3 _ rfl;simpa [c3] using this
  have h4:DataW.trod enc Tryz.prog w 0 (fun _=>true) true n 3 [u9]=some x4:=by have:=hf 4 _ rfl;simpa [c1] using this
  have h5:DataW.trod enc Tryz.prog w 0 (fun _=>true) true n 9 [u10]=some x5:=by have:=hf 5 _ rfl;simpa [c2] using this
  have h6:DataW.trod enc Tryz.prog w 0 (fun _=>true) true n 9 [u11]=some x6:=by have:=hf 6 _ rfl;simpa [c2] using this
  have h7:DataW.trod enc Tryz.prog w 0 (fun _=>true) true n 3 [u12]=some x7:=by have:=hf 7 _ rfl;simpa [c1] using this
  obtain ⟨a0,e0,_,_⟩:=DataW.trod_int Tryz.underlying3 h0
  obtain ⟨a4,e4,_,_⟩:=DataW.trod_int Tryz.underlying3 h4
  obtain ⟨a5,e5,z5,_⟩:=DataW.trod_string Tryz.underlying9 h5
  obtain ⟨a6,e6,_,_⟩:=DataW.trod_string Tryz.underlying9 h6
  obtain ⟨a7,e7,_,_⟩:=DataW.trod_int Tryz.underlying3 h7
  injection e0 with e0;injection e4 with e4;injection e5 with e5;injection e6 with e6;injection e7 with e7
  subst e0 e4 e5 e6 e7
  have hall:Rows.uptoBulk x1.1+Rows.uptoBulk x2.1+Rows.uptoBulk x3.1+Rows.uptoBulk x5.1<B:=by
   rw [←hB,hx]
   simp only [Rows.uptoBulk,List.map_cons,Rows.uptoBulkAll]
   omega
  have h5b:a5.size<B:=by
   have:Rows.uptoBulk x5.1=a5.data.toList.length+1:=by rw [z5];simp only [Rows.uptoBulk]
   rw [Array.length_toList] at this
   have e:a5.data.size=a5.size:=rfl
   omega
  obtain ⟨t,rt,ht1,ht2⟩:=open_T _ n _ x1 rfl (by omega) h1
  obtain ⟨l,ds,rc,hsum,h2'⟩:=qgr (k:=13) q5l RR Tryz.underlying22 (by kernel_rfl) (by decide) h2 (fun fuel cs y hlt hy=>ih _ (by omega) fuel cs y rfl (by omega) hy)
  obtain ⟨g1,g2,g3⟩:=all2_R h2'
  obtain ⟨l',ds',rc',hsum',h3'⟩:=qgr (k:=13) q5l RR Tryz.underlying22 (by kernel_rfl) (by decide) h3 (fun fuel cs y hlt hy=>ih _ (by omega) fuel cs y rfl (by omega) hy)
  obtain ⟨g1',g2',g3'⟩:=all2_R h3'
  have hlen:=q3u ds
  have hlen':=q3u ds'
  rw [q5z] at rt
  obtain ⟨r1,r2,r3,r4,r5,r6,_⟩:=rt
  obtain ⟨o1,o2⟩:=(qdl t).1 ht2
  refine ⟨⟨a0,t.Kind,t.Tests,t.Name,t.Pattern,t.Text,t.N,l,l',a4,a5,a6,a7⟩,?_,?_,?_⟩
  ·rw [q60]
   exact ⟨.int _ _,r1,r2,r3,r4,r5,r6,rc,rc',.int _ _,.str _,.str _,.int _ _,trivial⟩
  ·rw [tsz_eq,hB]
   show tzT ⟨t.Kind,t.Tests,t.Name,t.Pattern,t.Text,t.N⟩+tszL l+tszL l'≤B
   rw [eta_T]
   omega
  ·refine (okR_eq _).2 ⟨⟨o1,o2⟩,⟨?_,g2⟩,⟨?_,g2'⟩,?_⟩
   ·show l.length≤big;unfold big;omega
   ·show l'.length≤big;unfold big;omega
   ·show a5.size≤big;unfold big;omega
set_option maxRecDepth 100000 in
theorem qdv {d:DataW H} {p:List MemPlace} {v:Value} (hv:∃ a n c,v=.slice a n c) (hb:Rows.uptoBulk d≤1048576) (h:DataW.Trod enc Tryz.prog w 0 (fun _=>true) true 22 v d p) :
  ∃ l:List S59,RepC (Zw w) v (.sl (q5l.encL l))∧okL l∧l.length≤1048576∧tszL l≤1048576:=by
 obtain ⟨a,n,c,rfl⟩:=hv
 obtain ⟨fuel,hf⟩:=h
 obtain ⟨l,ds,rc,hsum,h2'⟩:=qgr (k:=13) q5l RR Tryz.underlying22 (by kernel_rfl) (by decide) hf (fun fuel cs y hlt hy=>open_R _ fuel cs y rfl (by simp only at hlt;omega) hy)
 obtain ⟨g1,g2,g3⟩:=all2_R h2'
 have hlen:=q3u ds
 simp only at hsum
 exact ⟨l,rc,g2,by omega,by omega⟩
end
end Go.Proofs.YtognhcibcocbkaaGreatDoor
namespace Go.Proofs.YtognhcibcocbkaaGreatDoor
open Go.Shelf
set_option maxRecDepth 100000
def qay:Go.Shelf.Ren:=⟨fun|137=>36|217=>53|266=>73|n=>n,fun|9=>9|5=>5|3=>3|n=>n,fun|n=>n⟩
theorem lays137:Go.Proofs.Lays.n137 Tryz.prog qay:={
 mixed:=by kernel_rfl
 f137:=Tryz.func36.trans (congrArg some (by kernel_rfl))
 f217:=Tryz.func53.trans (congrArg some (by kernel_rfl))
 f266:=Tryz.func73.trans (congrArg some (by kernel_rfl))
 t3:=Tryz.underlying3
 a3:=Tryz.isAgg3
 z3:=Tryz.sizeOf3
 v3:=Tryz.zeroValue3
 t5:=Tryz.underlying5
 a5:=Tryz.isAgg5
 z5:=Tryz.sizeOf5
 v5:=Tryz.zeroValue5
 t9:=Tryz.underlying9
 a9:=Tryz.isAgg9
 z9:=Tryz.sizeOf9
 v9:=Tryz.zeroValue9 }
def qb2:Go.Shelf.Ren:=⟨fun|171=>66|243=>90|246=>103|283=>110|284=>111|285=>112|286=>113|129=>123|317=>122|318=>124|319=>125|320=>126|337=>138|338=>139|n=>n,fun|3=>3|9=>9|2=>2|4=>4|171=>153|0=>0|53=>127|37=>87|5=>5|173=>156|212=>176|51=>124|20=>20|213=>177|46=>103|232=>216|233=>217|n=>n,fun|17=>1|18=>4|19=>5|n=>n⟩
theorem laysM171:Go.Proofs.LaysM.n171 Tryz.prog qb2:={
 mixed:=by kernel_rfl
 f129:=Tryz.func123.trans (congrArg some (by kernel_rfl))
 f171:=Tryz.func66.trans (congrArg some (by kernel_rfl))
 f243:=Tryz.func90.trans (congrArg some (by kernel_rfl))
 f246:=Tryz.func103.trans (congrArg some (by kernel_rfl))
 f283:=Tryz.func110.trans (congrArg some (by kernel_rfl))
 f284:=Tryz.func111.trans (congrArg some (by kernel_rfl))
 f285:=Tryz.func112.trans (congrArg some (by kernel_rfl))
 f286:=Tryz.func113.trans (congrArg some (by kernel_rfl))
 f317:=Tryz.func122.trans (congrArg some (by kernel_rfl))
 f318:=Tryz.func124.trans (congrArg some (by kernel_rfl))
 f319:=Tryz.func125.trans (congrArg some (by kernel_rfl))
 f320:=Tryz.func126.trans (congrArg some (by kernel_rfl))
 f337:=Tryz.func138.trans (congrArg some (by kernel_rfl))
 f338:=Tryz.func139.trans (congrArg some (by kernel_rfl))
 t0:=Tryz.underlying0
 a0:=Tryz.isAgg0
 z0:=Tryz.sizeOf0
 v0:=Tryz.zeroValue0
 t2:=Tryz.underlying2
 a2:=Tryz.isAgg2
 z2:=Tryz.sizeOf2
 v2:=Tryz.zeroValue2
 t3:=Tryz.underlying3
 a3:=Tryz.isAgg3
 z3:=Tryz.sizeOf3
 v3:=Tryz.zeroValue3
 t4:=Tryz.underlying4
 a4:=Tryz.isAgg4
 z4:=Tryz.sizeOf4
 v4:=Tryz.zeroValue4
 t5:=Tryz.underlying5
 a5:=Tryz.isAgg5
 z5:=Tryz.sizeOf5
 v5:=Tryz.zeroValue5
 t9:=Tryz.underlying9
 a9:=Tryz.isAgg9
 z9:=Tryz.sizeOf9
 v9:=Tryz.zeroValue9
 t20:=Tryz.underlying20
 a20:=Tryz.isAgg20
 z20:=Tryz.sizeOf20
 v20:=Tryz.zeroValue20
 t37:=Tryz.underlying87
 a37:=Tryz.isAgg87
 z37:=Tryz.sizeOf87
 v37:=Tryz.zeroValue87
 t46:=Tryz.underlying103
 a46:=Tryz.isAgg103
 z46:=Tryz.sizeOf103
 v46:=Tryz.zeroValue103
 t51:=Tryz.underlying124
 a51:=Tryz.isAgg124
 z51:=Tryz.sizeOf124
 v51:=Tryz.zeroValue124
 t53:=Tryz.underlying127
 a53:=Tryz.isAgg127
 z53:=Tryz.sizeOf127
 v53:=Tryz.zeroValue127
 t171:=Tryz.underlying153
 a171:=Tryz.isAgg153
 z171:=Tryz.sizeOf153
 v171:=Tryz.zeroValue153
 t173:=Tryz.underlying156
 a173:=Tryz.isAgg156
 z173:=Tryz.sizeOf156
 v173:=Tryz.zeroValue156
 t212:=Tryz.underlying176
 a212:=Tryz.isAgg176
 z212:=Tryz.sizeOf176
 v212:=Tryz.zeroValue176
 t213:=Tryz.underlying177
 a213:=Tryz.isAgg177
 z213:=Tryz.sizeOf177
 t232:=Tryz.underlying216
 a232:=Tryz.isAgg216
 z232:=Tryz.sizeOf216
 v232:=Tryz.zeroValue216
 t233:=Tryz.underlying217
 a233:=Tryz.isAgg217
 z233:=Tryz.sizeOf217
 v233:=Tryz.zeroValue217
 g17:=by kernel_rfl
 g18:=by kernel_rfl
 g19:=by kernel_rfl
 i0:=by kernel_rfl
 i2:=by kernel_rfl
 i3:=by kernel_rfl
 i4:=by kernel_rfl
 i5:=by kernel_rfl
 i9:=by kernel_rfl
 i20:=by kernel_rfl
 i37:=by kernel_rfl
 i46:=by kernel_rfl
 i51:=by kernel_rfl
 i53:=by kernel_rfl
 i171:=by kernel_rfl
 i173:=by kernel_rfl
 i212:=by kernel_rfl
 i232:=by kernel_rfl
 i233:=by kernel_rfl
 m17:=by kernel_rfl
 m18:=by kernel_rfl
 m19:=by kernel_rfl }
def qb1:Go.Shelf.Ren:=⟨fun|172=>104|244=>114|245=>115|247=>127|279=>128|280=>129|281=>130|282=>131|287=>140|316=>141|171=>66|205=>142|321=>152|322=>153|243=>90|246=>103|283=>110|284=>111|285=>112|286=>113|129=>123|317=>122|318=>124|319=>125|320=>126|337=>138|338=>139|n=>n,fun|9=>9|3=>3|75=>111|76=>112|4=>4|5=>5|167=>179|37=>87|0=>0|85=>180|2=>2|168=>182|53=>127|175=>200|46=>103|210=>203|127=>130|145=>221|143=>219|21=>21|171=>153|173=>156|212=>176|51=>124|20=>20|213=>177|232=>216|233=>217|80=>114|n=>n,fun|15=>2|16=>3|17=>1|18=>4|19=>5|n=>n⟩
theorem laysC172:Go.Proofs.LaysC.n172 Tryz.prog qb1:={
 mixed:=by kernel_rfl
 f129:=Tryz.func123.trans (congrArg some (by kernel_rfl))
 f171:=Tryz.func66.trans (congrArg some (by kernel_rfl))
 f172:=Tryz.func104.trans (congrArg some (by kernel_rfl))
 f205:=Tryz.func142.trans (congrArg some (by kernel_rfl))
 f243:=Tryz.func90.trans (congrArg some (by kernel_rfl))
 f244:=Tryz.func114.trans (congrArg some (by kernel_rfl))
 f245:=Tryz.func115.trans (congrArg some (by kernel_rfl))
 f246:=Tryz.func103.trans (congrArg some (by kernel_rfl))
 f247:=Tryz.func127.trans (congrArg some (by kernel_rfl))
 f279:=Tryz.func128.trans (congrArg some (by kernel_rfl))
 f280:=Tryz.func129.trans (congrArg some (by kernel_rfl))
 f281:=Tryz.func130.trans (congrArg some (by kernel_rfl))
 f282:=Tryz.func131.trans (congrArg some (by kernel_rfl))
 f283:=Tryz.func110.trans (congrArg some (by kernel_rfl))
 f284:=Tryz.func111.trans (congrArg some (by kernel_rfl))
 f285:=Tryz.func112.trans (congrArg some (by kernel_rfl))
 f286:=Tryz.func113.trans (congrArg some (by kernel_rfl))
 f287:=Tryz.func140.trans (congrArg some (by kernel_rfl))
 f316:=Tryz.func141.trans (congrArg some (by kernel_rfl))
 f317:=Tryz.func122.trans (congrArg some (by kernel_rfl))
 f318:=Tryz.func124.trans (congrArg some (by kernel_rfl))
 f319:=Tryz.func125.trans (congrArg some (by kernel_rfl))
 f320:=Tryz.func126.trans (congrArg some (by kernel_rfl))
 f321:=Tryz.func152.trans (congrArg some (by kernel_rfl))
 f322:=Tryz.func153.trans (congrArg some (by kernel_rfl))
 f337:=Tryz.func138.trans (congrArg some (by kernel_rfl))
 f338:=Tryz.func139.trans (congrArg some (by kernel_rfl))
 t0:=Tryz.underlying0
 a0:=Tryz.isAgg0
 z0:=Tryz.sizeOf0
 v0:=Tryz.zeroValue0
 t2:=Tryz.underlying2
 a2:=Tryz.isAgg2
 z2:=Tryz.sizeOf2
 v2:=Tryz.zeroValue2
 t3:=Tryz.underlying3
 a3:=Tryz.isAgg3
 z3:=Tryz.sizeOf3
 v3:=Tryz.zeroValue3
 t4:=Tryz.underlying4
 a4:=Tryz.isAgg4
 z4:=Tryz.sizeOf4
 v4:=Tryz.zeroValue4
 t5:=Tryz.underlying5
 a5:=Tryz.isAgg5
 z5:=Tryz.sizeOf5
 v5:=Tryz.zeroValue5
 t9:=Tryz.underlying9
 a9:=Tryz.isAgg9
 z9:=Tryz.sizeOf9
 v9:=Tryz.zeroValue9
 t20:=Tryz.underlying20
 a20:=Tryz.isAgg20
 z20:=Tryz.sizeOf20
 v20:=Tryz.zeroValue20
 t21:=Tryz.underlying21
 a21:=Tryz.isAgg21
 z21:=Tryz.sizeOf21
 v21:=Tryz.zeroValue21
 t37:=Tryz.underlying87
 a37:=Tryz.isAgg87
 z37:=Tryz.sizeOf87
 v37:=Tryz.zeroValue87
 t46:=Tryz.underlying103
 a46:=Tryz.isAgg103
 z46:=Tryz.sizeOf103
 v46:=Tryz.zeroValue103
 t51:=Tryz.underlying124
 a51:=Tryz.isAgg124
 z51:=Tryz.sizeOf124
 v51:=Tryz.zeroValue124
 t53:=Tryz.underlying127
 a53:=Tryz.isAgg127
 z53:=Tryz.sizeOf127
 v53:=Tryz.zeroValue127
 t75:=Tryz.underlying111
 a75:=Tryz.isAgg111
 z75:=Tryz.sizeOf111
 v75:=Tryz.zeroValue111
 t76:=Tryz.underlying112
 a76:=Tryz.isAgg112
 z76:=Tryz.sizeOf112
 v76:=Tryz.zeroValue112
 t85:=Tryz.underlying180
 a85:=Tryz.isAgg180
 z85:=Tryz.sizeOf180
 v85:=Tryz.zeroValue180
 t127:=Tryz.underlying130
 a127:=Tryz.isAgg130
 z127:=Tryz.sizeOf130
 v127:=Tryz.zeroValue130
 t143:=Tryz.underlying219
 a143:=Tryz.isAgg219
 z143:=Tryz.sizeOf219
 v143:=Tryz.zeroValue219
 t145:=Tryz.underlying221
 a145:=Tryz.isAgg221
 z145:=Tryz.sizeOf221
 v145:=Tryz.zeroValue221
 t167:=Tryz.underlying179
 a167:=Tryz.isAgg179
 z167:=Tryz.sizeOf179
 v167:=Tryz.zeroValue179
 t168:=Tryz.underlying182
 a168:=Tryz.isAgg182
 z168:=Tryz.sizeOf182
 v168:=Tryz.zeroValue182
 t171:=Tryz.underlying153
 a171:=Tryz.isAgg153
 z171:=Tryz.sizeOf153
 v171:=Tryz.zeroValue153
 t173:=Tryz.underlying156
 a173:=Tryz.isAgg156
 z173:=Tryz.sizeOf156
 v173:=Tryz.zeroValue156
 t175:=Tryz.underlying200
 a175:=Tryz.isAgg200
 z175:=Tryz.sizeOf200
 v175:=Tryz.zeroValue200
 t210:=Tryz.underlying203
 a210:=Tryz.isAgg203
 z210:=Tryz.sizeOf203
 v210:=Tryz.zeroValue203
 t212:=Tryz.underlying176
 a212:=Tryz.isAgg176
 z212:=Tryz.sizeOf176
 v212:=Tryz.zeroValue176
 t213:=Tryz.underlying177
 a213:=Tryz.isAgg177
 z213:=Tryz.sizeOf177
 t232:=Tryz.underlying216
 a232:=Tryz.isAgg216
 z232:=Tryz.sizeOf216
 v232:=Tryz.zeroValue216
 t233:=Tryz.underlying217
 a233:=Tryz.isAgg217
 z233:=Tryz.sizeOf217
 v233:=Tryz.zeroValue217
 g15:=by kernel_rfl
 g16:=by kernel_rfl
 g17:=by kernel_rfl
 g18:=by kernel_rfl
 g19:=by kernel_rfl
 t80:=Tryz.underlying114
 a80:=Tryz.isAgg114
 z80:=Tryz.sizeOf114
 v80:=Tryz.zeroValue114
 i0:=by kernel_rfl
 i2:=by kernel_rfl
 i3:=by kernel_rfl
 i4:=by kernel_rfl
 i5:=by kernel_rfl
 i9:=by kernel_rfl
 i20:=by kernel_rfl
 i21:=by kernel_rfl
 i37:=by kernel_rfl
 i46:=by kernel_rfl
 i51:=by kernel_rfl
 i53:=by kernel_rfl
 i75:=by kernel_rfl
 i76:=by kernel_rfl
 i80:=by kernel_rfl
 i85:=by kernel_rfl
 i127:=by kernel_rfl
 i143:=by kernel_rfl
 i145:=by kernel_rfl
 i167:=by kernel_rfl
 i168:=by kernel_rfl
 i171:=by kernel_rfl
 i173:=by kernel_rfl
 i175:=by kernel_rfl
 i210:=by kernel_rfl
 i212:=by kernel_rfl
 i232:=by kernel_rfl
 i233:=by kernel_rfl
 m15:=by kernel_rfl
 m16:=by kernel_rfl
 m17:=by kernel_rfl
 m18:=by kernel_rfl
 m19:=by kernel_rfl
 c0:=by kernel_rfl
 c2:=by kernel_rfl
 c3:=by kernel_rfl
 c4:=by kernel_rfl
 c5:=by kernel_rfl
 c9:=by kernel_rfl
 c20:=by kernel_rfl
 c21:=by kernel_rfl
 c37:=by kernel_rfl
 c46:=by kernel_rfl
 c51:=by kernel_rfl
 c53:=by kernel_rfl
 c75:=by kernel_rfl
 c76:=by kernel_rfl
 c80:=by kernel_rfl
 c85:=by kernel_rfl
 c127:=by kernel_rfl
 c143:=by kernel_rfl
 c145:=by kernel_rfl
 c167:=by kernel_rfl
 c168:=by kernel_rfl
 c171:=by kernel_rfl
 c173:=by kernel_rfl
 c175:=by kernel_rfl
 c210:=by kernel_rfl
 c212:=by kernel_rfl
 c213:=by kernel_rfl
 c232:=by kernel_rfl
 c233:=by kernel_rfl }
def qaz:Go.Shelf.Ren:=⟨fun|138=>188|195=>189|218=>190|143=>191|219=>192|217=>53|225=>193|224=>194|267=>195|266=>73|314=>196|n=>n,fun|9=>9|3=>3|4=>4|5=>5|0=>0|46=>103|146=>125|51=>124|n=>n,fun|1=>0|n=>n⟩
theorem lays138:Go.Proofs.Lays.n138 Tryz.prog qaz:={
 mixed:=by kernel_rfl
 f138:=Tryz.func188.trans (congrArg some (by kernel_rfl))
 f143:=Tryz.func191.trans (congrArg some (by kernel_rfl))
 f195:=Tryz.func189.trans (congrArg some (by kernel_rfl))
 f217:=Tryz.func53.trans (congrArg some (by kernel_rfl))
 f218:=Tryz.func190.trans (congrArg some (by kernel_rfl))
 f219:=Tryz.func192.trans (congrArg some (by kernel_rfl))
 f224:=Tryz.func194.trans (congrArg some (by kernel_rfl))
 f225:=Tryz.func193.trans (congrArg some (by kernel_rfl))
 f266:=Tryz.func73.trans (congrArg some (by kernel_rfl))
 f267:=Tryz.func195.trans (congrArg some (by kernel_rfl))
 f314:=Tryz.func196.trans (congrArg some (by kernel_rfl))
 t0:=Tryz.underlying0
 a0:=Tryz.isAgg0
 z0:=Tryz.sizeOf0
 v0:=Tryz.zeroValue0
 t3:=Tryz.underlying3
 a3:=Tryz.isAgg3
 z3:=Tryz.sizeOf3
 v3:=Tryz.zeroValue3
 t4:=Tryz.underlying4
 a4:=Tryz.isAgg4
 z4:=Tryz.sizeOf4
 v4:=Tryz.zeroValue4
 t5:=Tryz.underlying5
 a5:=Tryz.isAgg5
 z5:=Tryz.sizeOf5
 v5:=Tryz.zeroValue5
 t9:=Tryz.underlying9
 a9:=Tryz.isAgg9
 z9:=Tryz.sizeOf9
 v9:=Tryz.zeroValue9
 t46:=Tryz.underlying103
 a46:=Tryz.isAgg103
 z46:=Tryz.sizeOf103
 v46:=Tryz.zeroValue103
 t51:=Tryz.underlying124
 a51:=Tryz.isAgg124
 z51:=Tryz.sizeOf124
 v51:=Tryz.zeroValue124
 t146:=Tryz.underlying125
 a146:=Tryz.isAgg125
 z146:=Tryz.sizeOf125
 v146:=Tryz.zeroValue125
 g1:=by kernel_rfl }
def qb0:Go.Shelf.Ren:=⟨fun|156=>86|165=>81|166=>82|169=>84|240=>99|241=>100|276=>105|277=>106|n=>n,fun|31=>66|9=>9|3=>3|4=>4|0=>0|20=>20|72=>108|76=>112|70=>106|37=>87|75=>111|127=>130|164=>148|5=>5|80=>114|n=>n,fun|n=>n⟩
theorem lays156:Go.Proofs.Lays.n156 Tryz.prog qb0:={
 mixed:=by kernel_rfl
 f156:=Tryz.func86.trans (congrArg some (by kernel_rfl))
 f165:=Tryz.func81.trans (congrArg some (by kernel_rfl))
 f166:=Tryz.func82.trans (congrArg some (by kernel_rfl))
 f169:=Tryz.func84.trans (congrArg some (by kernel_rfl))
 f240:=Tryz.func99.trans (congrArg some (by kernel_rfl))
 f241:=Tryz.func100.trans (congrArg some (by kernel_rfl))
 f276:=Tryz.func105.trans (congrArg some (by kernel_rfl))
 f277:=Tryz.func106.trans (congrArg some (by kernel_rfl))
 t0:=Tryz.underlying0
 a0:=Tryz.isAgg0
 z0:=Tryz.sizeOf0
 v0:=Tryz.zeroValue0
 t3:=Tryz.underlying3
 a3:=Tryz.isAgg3
 z3:=Tryz.sizeOf3
 v3:=Tryz.zeroValue3
 t4:=Tryz.underlying4
 a4:=Tryz.isAgg4
 z4:=Tryz.sizeOf4
 v4:=Tryz.zeroValue4
 t9:=Tryz.underlying9
 a9:=Tryz.isAgg9
 z9:=Tryz.sizeOf9
 v9:=Tryz.zeroValue9
 t20:=Tryz.underlying20
 a20:=Tryz.isAgg20
 z20:=Tryz.sizeOf20
 v20:=Tryz.zeroValue20
 t31:=Tryz.underlying66
 a31:=Tryz.isAgg66
 z31:=Tryz.sizeOf66
 v31:=Tryz.zeroValue66
 t37:=Tryz.underlying87
 a37:=Tryz.isAgg87
 z37:=Tryz.sizeOf87
 v37:=Tryz.zeroValue87
 t70:=Tryz.underlying106
 a70:=Tryz.isAgg106
 z70:=Tryz.sizeOf106
 v70:=Tryz.zeroValue106
 t72:=Tryz.underlying108
 a72:=Tryz.isAgg108
 z72:=Tryz.sizeOf108
 v72:=Tryz.zeroValue108
 t75:=Tryz.underlying111
 a75:=Tryz.isAgg111
 z75:=Tryz.sizeOf111
 v75:=Tryz.zeroValue111
 t76:=Tryz.underlying112
 a76:=Tryz.isAgg112
 z76:=Tryz.sizeOf112
 v76:=Tryz.zeroValue112
 t127:=Tryz.underlying130
 a127:=Tryz.isAgg130
 z127:=Tryz.sizeOf130
 v127:=Tryz.zeroValue130
 t164:=Tryz.underlying148
 a164:=Tryz.isAgg148
 z164:=Tryz.sizeOf148
 v164:=Tryz.zeroValue148 }
def qax:Go.Shelf.Ren:=⟨fun|105=>61|212=>79|99=>80|165=>81|166=>82|170=>83|169=>84|263=>96|264=>97|206=>98|240=>99|241=>100|276=>105|277=>106|n=>n,fun|9=>9|3=>3|4=>4|20=>20|0=>0|46=>103|109=>104|5=>5|72=>108|76=>112|51=>124|146=>125|53=>127|148=>128|70=>106|37=>87|75=>111|127=>130|164=>148|80=>114|n=>n,fun|n=>n⟩
theorem lays105:Go.Proofs.Lays.n105 Tryz.prog qax:={
 mixed:=by kernel_rfl
 f99:=Tryz.func80.trans (congrArg some (by kernel_rfl))
 f105:=Tryz.func61.trans (congrArg some (by kernel_rfl))
 f165:=Tryz.func81.trans (congrArg some (by kernel_rfl))
 f166:=Tryz.func82.trans (congrArg some (by kernel_rfl))
 f169:=Tryz.func84.trans (congrArg some (by kernel_rfl))
 f170:=Tryz.func83.trans (congrArg some (by kernel_rfl))
 f206:=Tryz.func98.trans (congrArg some (by kernel_rfl))
 f212:=Tryz.func79.trans (congrArg some (by kernel_rfl))
 f240:=Tryz.func99.trans (congrArg some (by kernel_rfl))
 f241:=Tryz.func100.trans (congrArg some (by kernel_rfl))
 f263:=Tryz.func96.trans (congrArg some (by kernel_rfl))
 f264:=Tryz.func97.trans (congrArg some (by kernel_rfl))
 f276:=Tryz.func105.trans (congrArg some (by kernel_rfl))
 f277:=Tryz.func106.trans (congrArg some (by kernel_rfl))
 t0:=Tryz.underlying0
 a0:=Tryz.isAgg0
 z0:=Tryz.sizeOf0
 v0:=Tryz.zeroValue0
 t3:=Tryz.underlying3
 a3:=Tryz.isAgg3
 z3:=Tryz.sizeOf3
 v3:=Tryz.zeroValue3
 t4:=Tryz.underlying4
 a4:=Tryz.isAgg4
 z4:=Tryz.sizeOf4
 v4:=Tryz.zeroValue4
 t5:=Tryz.underlying5
 a5:=Tryz.isAgg5
 z5:=Tryz.sizeOf5
 v5:=Tryz.zeroValue5
 t9:=Tryz.underlying9
 a9:=Tryz.isAgg9
 z9:=Tryz.sizeOf9
 v9:=Tryz.zeroValue9
 t20:=Tryz.underlying20
 a20:=Tryz.isAgg20
 z20:=Tryz.sizeOf20
 v20:=Tryz.zeroValue20
 t37:=Tryz.underlying87
 a37:=Tryz.isAgg87
 z37:=Tryz.sizeOf87
 v37:=Tryz.zeroValue87
 t46:=Tryz.underlying103
 a46:=Tryz.isAgg103
 z46:=Tryz.sizeOf103
 v46:=Tryz.zeroValue103
 t51:=Tryz.underlying124
 a51:=Tryz.isAgg124
 z51:=Tryz.sizeOf124
 v51:=Tryz.zeroValue124
 t53:=Tryz.underlying127
 a53:=Tryz.isAgg127
 z53:=Tryz.sizeOf127
 v53:=Tryz.zeroValue127
 t70:=Tryz.underlying106
 a70:=Tryz.isAgg106
 z70:=Tryz.sizeOf106
 v70:=Tryz.zeroValue106
 t72:=Tryz.underlying108
 a72:=Tryz.isAgg108
 z72:=Tryz.sizeOf108
 v72:=Tryz.zeroValue108
 t75:=Tryz.underlying111
 a75:=Tryz.isAgg111
 z75:=Tryz.sizeOf111
 v75:=Tryz.zeroValue111
 t76:=Tryz.underlying112
 a76:=Tryz.isAgg112
 z76:=Tryz.sizeOf112
 v76:=Tryz.zeroValue112
 t109:=Tryz.underlying104
 a109:=Tryz.isAgg104
 z109:=Tryz.sizeOf104
 v109:=Tryz.zeroValue104
 t127:=Tryz.underlying130
 a127:=Tryz.isAgg130
 z127:=Tryz.sizeOf130
 v127:=Tryz.zeroValue130
 t146:=Tryz.underlying125
 a146:=Tryz.isAgg125
 z146:=Tryz.sizeOf125
 v146:=Tryz.zeroValue125
 t148:=Tryz.underlying128
 a148:=Tryz.isAgg128
 z148:=Tryz.sizeOf128
 v148:=Tryz.zeroValue128
 t164:=Tryz.underlying148
 a164:=Tryz.isAgg148
 z164:=Tryz.sizeOf148
 v164:=Tryz.zeroValue148 }
theorem qb:Builder.Extra Tryz.prog qb0:={
 sizeBuilder:=by kernel_rfl
 liesBuilder:=by kernel_rfl
 t5:=Tryz.underlying5
 a5:=Tryz.isAgg5
 z5:=Tryz.sizeOf5
 v5:=Tryz.zeroValue5
 infoByte:=by kernel_rfl
 cellsByte:=by kernel_rfl
 sizeByte:=by kernel_rfl
 neB5:=by decide }
theorem qa:Builder.Extra Tryz.prog qax:={
 sizeBuilder:=by kernel_rfl
 liesBuilder:=by kernel_rfl
 t5:=Tryz.underlying5
 a5:=Tryz.isAgg5
 z5:=Tryz.sizeOf5
 v5:=Tryz.zeroValue5
 infoByte:=by kernel_rfl
 cellsByte:=by kernel_rfl
 sizeByte:=by kernel_rfl
 neB5:=by decide }
end Go.Proofs.YtognhcibcocbkaaGreatDoor
namespace Go.Proofs.YtognhcibcocbkaaGreatDoor
open Go.RowKit
set_option maxRecDepth 100000
theorem disable (w:World):(callFunc 143 #[]).run Tryz.prog w=.ok (.value (.tuple #[])) w:=run_call_mark0 Tryz.func143 (by kernel_rfl) (by kernel_rfl) (by kernel_rfl) .disable (by kernel_rfl) w
theorem enable (w:World):(callFunc 145 #[]).run Tryz.prog w=.ok (.value (.tuple #[])) w:=run_call_mark0 Tryz.func145 (by kernel_rfl) (by kernel_rfl) (by kernel_rfl) .enable (by kernel_rfl) w
theorem acquire (a:Addr) (w:World):(callFunc 146 #[.pointer (some a)]).run Tryz.prog w=.ok (.value (.tuple #[])) w:=run_call_marked Tryz.func146 (by kernel_rfl) (by kernel_rfl) (by kernel_rfl) .acquire (by kernel_rfl) a w
theorem releaseMerge (a:Addr) (w:World):(callFunc 148 #[.pointer (some a)]).run Tryz.prog w=.ok (.value (.tuple #[])) w:=run_call_marked Tryz.func148 (by kernel_rfl) (by kernel_rfl) (by kernel_rfl) .releaseMerge (by kernel_rfl) a w
theorem qsp (a:Addr) (x:Value) (u:FrameMode) (w:World) (hc:w.cell? a=some x) (hz:w.frozen? a=false) :
  CallsD Tryz.prog 119 #[.pointer (some a),.bool true] u w fun e u' w'=>u'=u∧(e=.returned (.tuple #[])∧w'=w.drew.setCell a (.int .u32 1)):=by
 have hc':w.drew.cell? a=some x:=by go_simp
 have hz':w.drew.frozen? a=false:=by go_simp
 have hst:=run_call_store (P:=Tryz.prog) Tryz.func134 (by kernel_rfl) (by kernel_rfl) (by kernel_rfl) (by kernel_rfl) (k:=.u32) (y:=1) hc' hz'
 go_enter_d Tryz.func119,Tryz.ntmps119
 go_wp2
 go_region_calls
 all_goals (go_end0;exact ⟨rfl,rfl⟩)
theorem iunlock (a:Addr) (w:World) (hc:w.cell? a=some (.int .i32 1)) (hz:w.frozen? a=false) :
  Calls Tryz.prog 133 #[.pointer (some a)] w fun e w'=>e=.returned (.tuple #[])∧w'=w.setCell a (.int .i32 0):=by
 have hd:=disable
 have he:=enable
 have hr:=releaseMerge
 have hadd:=run_call_add (P:=Tryz.prog) Tryz.func149 (by kernel_rfl) (by kernel_rfl) (by kernel_rfl) .i32 (by kernel_rfl) (y:=-1) (s:=0) hc hz (by simp [go_sem];rfl)
 have hcv:=run_convert_to_unsafe (P:=Tryz.prog) (src:=205) (dst:=148) Tryz.underlying205 Tryz.underlying148 (by kernel_rfl) hc
 go_enter Tryz.func133,Tryz.ntmps133
 go_wp2
 go_end0
 go_wp2
 all_goals (go_end0;exact ⟨rfl,rfl⟩)
theorem qv4 (a:Addr) (u:FrameMode) (w:World) (hc:w.cell? a=some (.int .i32 1)) (hz:w.frozen? a=false) :
  CallsD Tryz.prog 118 #[.pointer (some a)] u w fun e u' w'=>u'=u∧(e=.returned (.tuple #[])∧w'=w.setCell a (.int .i32 0)):=by
 go_enter_d Tryz.func118,Tryz.ntmps118
 go_wp2_with (go_at_call 133;refine (iunlock a _ hc hz).mono ?_;rintro e w' ⟨rfl,rfl⟩)
 go_end0
 exact ⟨rfl,rfl⟩
theorem ilock (a:Addr) (w:World) (hc:w.cell? a=some (.int .i32 0)) (hz:w.frozen? a=false) :
  Calls Tryz.prog 132 #[.pointer (some a)] w fun e w'=>e=.returned (.tuple #[])∧w'=w.setCell a (.int .i32 1):=by
 have hd:=disable
 have he:=enable
 have ha:=acquire
 have hcas:=run_call_cas_hit (P:=Tryz.prog) Tryz.func144 (by kernel_rfl) (by kernel_rfl) (by kernel_rfl) .i32 (by kernel_rfl) (y:=1) hc hz
 have hc':(w.setCell a (.int .i32 1)).cell? a=some (.int .i32 1):=World.cell?_setCell_same w a _ hc
 have hcv:=run_convert_to_unsafe (P:=Tryz.prog) (src:=205) (dst:=148) Tryz.underlying205 Tryz.underlying148 (by kernel_rfl) hc'
 go_enter Tryz.func132,Tryz.ntmps132
 go_wp2
 first|go_end0|(simp only [Exit.inBlock,Exit.then];refine bodyPost_ret (results_none rfl _ _ _) rfl ?_)|refine bodyPost_ret (results_none rfl _ _ _) rfl ?_
 go_wp2
 all_goals (go_end0;exact ⟨rfl,rfl⟩)
theorem qbj (a:Addr) (w:World) (hc:w.cell? a=some (.int .i32 0)) (hz:w.frozen? a=false) :
  Calls Tryz.prog 117 #[.pointer (some a)] w fun e w'=>e=.returned (.tuple #[])∧w'=w.setCell a (.int .i32 1):=by
 go_enter Tryz.func117,Tryz.ntmps117
 go_wp2_with (go_at_call 132;refine (ilock a _ hc hz).mono ?_;rintro e w' ⟨rfl,rfl⟩)
 go_end0
 exact ⟨rfl,rfl⟩
end Go.Proofs.YtognhcibcocbkaaGreatDoor
