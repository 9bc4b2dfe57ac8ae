/- A mail, a list of replies, a text, a number that the caller hands in, opened. -/
import Derived.Test.YtmacbkjehjbjeaaGreatDoorZ26
import Derived.Shelf.Strings.Builder1
import Derived.Shelf.Strings.Builder2
import Derived.Shelf.Strings.OnBuilder
import Derived.Shelf.Small.Utf8
import Derived.Shelf.Small.Strs
import Derived.Shelf.Strings.BuilderF
import Derived.Shelf.Utf8.RuneCount
import Derived.Shelf.Strings.Builder2Cap
import Derived.Shelf.Strconv.Atoi
import Derived.Shelf.Strconv.Itoa0
import Derived.Shelf.Strconv.Itoa1
import Derived.Shelf.LaysM
import Derived.Shelf.Strconv.Itoa2
import Derived.Shelf.Strconv.Itoa3
import Derived.Shelf.Strconv.AtoiErrFast
import Derived.Shelf.Strconv.ParseIntEmpty
import Derived.Shelf.Strconv.AtoiFail
import Derived.Shelf.Strconv.Clone
import Derived.Shelf.Strconv.SyntaxError
import Derived.Shelf.LaysC
import Derived.Shelf.Strconv.ToError
import Derived.Shelf.Strconv.Lower
import Derived.Shelf.Strconv.ParseUint10
import Derived.Shelf.Strconv.ParseUint10Empty
import Derived.Shelf.Strconv.ParseUint10Any
import Derived.Shelf.Strconv.ParseInt10
import Derived.Shelf.Strconv.AtoiLong
import Derived.Shelf.Strconv.AtoiInnerAll
import Derived.Shelf.Strconv.RangeError
import Derived.Shelf.Strconv.ToErrorRange
import Derived.Shelf.Strconv.AtoiAll
import Derived.Shelf.Strings.Search1
import Derived.Shelf.Strings.Search2
import Derived.Shelf.Strings.Search3
import Derived.Shelf.Strings.Cut
import Derived.Shelf.Strings.Count
import Derived.Shelf.Strings.Shaped
import Derived.Shelf.Strings.Prefix
import Derived.Shelf.Strings.Split
import Derived.Shelf.Strings.Runes
import Derived.Shelf.Strings.RuneCount
import Derived.Shelf.Strings.IndexAny
import Derived.Shelf.Strings.AsciiSet
import Derived.Shelf.Strings.IndexAnyAll
import Derived.Shelf.Bits.Mul64
import Derived.Shelf.Strings.Repeat
import Derived.Shelf.Bytes.SlIndexSmall
import Derived.Shelf.Bytes.SlIndexAt
import Derived.Shelf.Bytes.SlSearch0
import Derived.Shelf.Bytes.SlSearch1
import Derived.Shelf.Bytes.SlSearch2
import Derived.Shelf.Bytes.SlIndexWhole
import Derived.Shelf.Bytes.Small
import Derived.Shelf.Bytes.IndexByte
import Derived.Test.YtmacbkjehjbjeaaGreatDoorZ01
import Derived.Test.YtmacbkjehjbjeaaGreatDoorChecked
namespace Go.Proofs.YtmacbkjehjbjeaaGreatDoor
open Go.ChangeShapes Go.WideShapes Go.ChangeAt Go.RowKit Go.Deep
theorem two {α:Type} {l:List α} (h:l.length=2):∃ a b,l=[a,b]:=by
 match l,h with
 |[a,b],_=>exact ⟨a,b,rfl⟩
theorem three {α:Type} {l:List α} (h:l.length=3):∃ a b c,l=[a,b,c]:=by
 match l,h with
 |[a,b,c],_=>exact ⟨a,b,c,rfl⟩
theorem five {α:Type} {l:List α} (h:l.length=5):∃ a b c d e,l=[a,b,c,d,e]:=by
 match l,h with
 |[a,b,c,d,e],_=>exact ⟨a,b,c,d,e,rfl⟩
section
variable {H:Type} {enc:TypeId×Value→H} {w:World}
theorem qq5 {a:ByteArray} {x:DataW H×List MemPlace} {q:List MemPlace} (h:x=(.lit (.string a.data.toList),q)):a.size+1=Rows.uptoBulk x.1:=by
 subst h
 simp only [Rows.uptoBulk,Array.length_toList]
 rfl
theorem qnd {fuel:Nat} {cs:List Value} {y:DataW H×List MemPlace} (hb:Rows.uptoBulk y.1≤2000000) (h:DataW.trod enc Tryz.prog w 0 (fun _=>true) true fuel 69 cs=some y) :
  ∃ a:S69,RepL (Zw w) cs (q181.enc a)∧a.Address.size≤2000000:=by
 obtain ⟨xs,n,_,hx,hl,hxl,hf⟩:=DataW.trod_struct Tryz.underlying69 h
 have hc:Tryz.prog.cellsOf 69=2:=by kernel_rfl
 have c1:Tryz.prog.cellsOf 3=1:=by kernel_rfl
 have c2:Tryz.prog.cellsOf 9=1:=by kernel_rfl
 rw [hc] at hl
 obtain ⟨u0,u1,rfl⟩:=two hl
 obtain ⟨x0,x1,rfl⟩:=two hxl
 have h0:DataW.trod enc Tryz.prog w 0 (fun _=>true) true n 9 [u0]=some x0:=by have:=hf 0 _ rfl;simpa [c2] using this
 have h1:DataW.trod enc Tryz.prog w 0 (fun _=>true) true n 3 [u1]=some x1:=by have:=hf 1 _ rfl;simpa [c1] using this
 obtain ⟨a0,e0,z0,_⟩:=DataW.trod_string Tryz.underlying9 h0
 obtain ⟨a1,e1,_,_⟩:=DataW.trod_int Tryz.underlying3 h1
 injection e0 with e0;injection e1 with e1
 subst e0 e1
 have hs:=qq5 z0
 have hbulk:Rows.uptoBulk x0.1≤2000000:=by
  rw [hx] at hb
  simp only [Rows.uptoBulk,List.map_cons,Rows.uptoBulkAll] at hb
  omega
 refine ⟨⟨a0,a1⟩,?_,?_⟩
 ·rw [enc_69]
  exact ⟨.str _,.int _ _,trivial⟩
 ·show a0.size≤2000000
  omega
theorem qna {fuel:Nat} {cs:List Value} {y:DataW H×List MemPlace} (h:DataW.trod enc Tryz.prog w 0 (fun _=>true) true fuel 57 cs=some y) :
  ∃ a:S57,RepL (Zw w) cs (q9j.enc a)∧True:=by
 obtain ⟨xs,n,_,hx,hl,hxl,hf⟩:=DataW.trod_struct Tryz.underlying57 h
 have hc:Tryz.prog.cellsOf 57=2:=by kernel_rfl
 have c2:Tryz.prog.cellsOf 9=1:=by kernel_rfl
 rw [hc] at hl
 obtain ⟨u0,u1,rfl⟩:=two hl
 obtain ⟨x0,x1,rfl⟩:=two hxl
 have h0:DataW.trod enc Tryz.prog w 0 (fun _=>true) true n 9 [u0]=some x0:=by have:=hf 0 _ rfl;simpa [c2] using this
 have h1:DataW.trod enc Tryz.prog w 0 (fun _=>true) true n 9 [u1]=some x1:=by have:=hf 1 _ rfl;simpa [c2] using this
 obtain ⟨a0,e0,z0,_⟩:=DataW.trod_string Tryz.underlying9 h0
 obtain ⟨a1,e1,_,_⟩:=DataW.trod_string Tryz.underlying9 h1
 injection e0 with e0;injection e1 with e1
 subst e0 e1
 refine ⟨⟨a0,a1⟩,?_,trivial⟩
 rw [enc_57]
 exact ⟨.str _,.str _,trivial⟩
theorem qn9 {fuel:Nat} {cs:List Value} {y:DataW H×List MemPlace} (h:DataW.trod enc Tryz.prog w 0 (fun _=>true) true fuel 5 cs=some y) :
  ∃ a:Int,RepL (Zw w) cs (q9i.enc a)∧True:=by
 obtain ⟨a0,e0,_,_⟩:=DataW.trod_int Tryz.underlying5 h
 subst e0
 exact ⟨a0,⟨.int _ _,trivial⟩,trivial⟩
theorem q12 {R:S69→Prop}:∀ {l:List S69} {ds:List (DataW H)},All2 (fun a _=>R a) l ds→(∀ x∈l,R x)∧l.length=ds.length
 |[],[],_=>⟨by simp,rfl⟩
 |a::l,d::ds,h=>by
  obtain ⟨h1,h2⟩:=q12 h.2
  exact ⟨fun x hx=>by rcases List.mem_cons.1 hx with rfl|hx;exact h.1;exact h1 x hx,by simp [h2]⟩
 |[],_::_,h=>h.elim
 |_::_,[],h=>h.elim
theorem qz {α β:Type} {R:α→β→Prop}:∀ {l:List α} {m:List β},All2 R l m→l.length=m.length
 |[],[],_=>rfl
 |_::l,_::m,h=>by simp [qz h.2]
 |[],_::_,h=>h.elim
 |_::_,[],h=>h.elim
structure LOk (f:ByteArray) (rc:List S69) (bd:List Int):Prop where
 fr:f.size≤2000000
 rl:rc.length≤2000000
 ad:∀ x∈rc,x.Address.size≤2000000
 bl:bd.length≤2000000
set_option maxRecDepth 100000 in
theorem qnc {d:DataW H} {p:List MemPlace} {v:Value} (hv:∃ cs:Array Value,v=.agg cs∧cs.size=Tryz.prog.cellsOf 30) (hb:Rows.uptoBulk d≤1048576) (h:DataW.Trod enc Tryz.prog w 0 (fun _=>true) true 30 v d p) :
  ∃ (f:ByteArray) (rc:List S69) (e:ByteArray) (fs:List S57) (bd:List Int),Rep (Zw w) (fun _ _=>none) noM v (.agg [.c (.str f),.c (.sl (q181.encL rc)),.c (.str e),.c (.sl (q9j.encL fs)),.c (.sl (q9i.encL bd))])∧LOk f rc bd∧fs.length≤1048576∧e.size≤1048576:=by
 obtain ⟨cs,rfl,hsz⟩:=hv
 obtain ⟨fuel,h⟩:=h
 obtain ⟨xs,n,_,hx,hl,hxl,hf⟩:=DataW.trod_struct Tryz.underlying30 h
 have hc:Tryz.prog.cellsOf 30=5:=by kernel_rfl
 have c1:Tryz.prog.cellsOf 24=3:=by kernel_rfl
 have c2:Tryz.prog.cellsOf 28=2:=by kernel_rfl
 have c3:Tryz.prog.cellsOf 9=1:=by kernel_rfl
 have c4:Tryz.prog.cellsOf 22=1:=by kernel_rfl
 have c5:Tryz.prog.cellsOf 25=1:=by kernel_rfl
 have c6:Tryz.prog.cellsOf 26=1:=by kernel_rfl
 rw [hc] at hl
 obtain ⟨l⟩:=cs
 obtain ⟨u0,u1,u2,u3,u4,rfl⟩:=five hl
 obtain ⟨x0,x1,rfl⟩:=two hxl
 have h0:DataW.trod enc Tryz.prog w 0 (fun _=>true) true n 24 [u0,u1,u2]=some x0:=by have:=hf 0 _ rfl;simpa [Value.cells,c1] using this
 have h1:DataW.trod enc Tryz.prog w 0 (fun _=>true) true n 28 [u3,u4]=some x1:=by have:=hf 1 _ rfl;simpa [Value.cells,c2] using this
 obtain ⟨ys,n1,_,hy,hyl,hyn,hg⟩:=DataW.trod_struct Tryz.underlying24 h0
 obtain ⟨zs,n2,_,hz,hzl,hzn,hk⟩:=DataW.trod_struct Tryz.underlying28 h1
 obtain ⟨y0,y1,y2,rfl⟩:=three hyn
 obtain ⟨z0,z1,rfl⟩:=two hzn
 have g0:DataW.trod enc Tryz.prog w 0 (fun _=>true) true n1 9 [u0]=some y0:=by have:=hg 0 _ rfl;simpa [c3] using this
 have g1:DataW.trod enc Tryz.prog w 0 (fun _=>true) true n1 22 [u1]=some y1:=by have:=hg 1 _ rfl;simpa [c4] using this
 have g2:DataW.trod enc Tryz.prog w 0 (fun _=>true) true n1 9 [u2]=some y2:=by have:=hg 2 _ rfl;simpa [c3] using this
 have k0:DataW.trod enc Tryz.prog w 0 (fun _=>true) true n2 25 [u3]=some z0:=by have:=hk 0 _ rfl;simpa [c5] using this
 have k1:DataW.trod enc Tryz.prog w 0 (fun _=>true) true n2 26 [u4]=some z1:=by have:=hk 1 _ rfl;simpa [c6] using this
 obtain ⟨a0,e0,b0,_⟩:=DataW.trod_string Tryz.underlying9 g0
 obtain ⟨a2,e2,b2,_⟩:=DataW.trod_string Tryz.underlying9 g2
 injection e0 with e0;injection e2 with e2
 subst e0 e2
 have hs0:=qq5 b0
 have hs2:=qq5 b2
 have hall:Rows.uptoBulk y0.1+Rows.uptoBulk y1.1+Rows.uptoBulk y2.1+Rows.uptoBulk z0.1+Rows.uptoBulk z1.1≤1048576:=by
  have ed:=congrArg Prod.fst hx
  simp only [List.map_cons,List.map_nil] at ed
  rw [ed,hy,hz] at hb
  simp only [Rows.uptoBulk,List.map_cons,List.map_nil,Rows.uptoBulkAll] at hb
  omega
 obtain ⟨rc,ds,r1,hsum,q1⟩:=qoy (k:=2) q181 (fun a _=>a.Address.size≤2000000) Tryz.underlying22 (by kernel_rfl) (by decide) g1 (fun fuel cs y hlt hy=>qnd (by omega) hy)
 obtain ⟨fs,ds',r3,hsum',q3⟩:=qoy (k:=2) q9j (fun _ _=>True) Tryz.underlying25 (by kernel_rfl) (by decide) k0 (fun fuel cs y hlt hy=>qna hy)
 obtain ⟨bd,ds2,r4,hsum2,q4⟩:=qoy (k:=1) q9i (fun _ _=>True) Tryz.underlying26 (by kernel_rfl) (by decide) k1 (fun fuel cs y hlt hy=>qn9 hy)
 obtain ⟨q5,q6⟩:=q12 q1
 have q7:=qz q3
 have q8:=qz q4
 have w1:=q6z ds
 have w2:=q6z ds'
 have w3:=q6z ds2
 refine ⟨a0,rc,a2,fs,bd,RepL.agg (us:=[.string a0,u1,.string a2,u3,u4]) (xs:=[.str a0,.sl (q181.encL rc),.str a2,.sl (q9j.encL fs),.sl (q9i.encL bd)]) ⟨.str _,r1,.str _,r3,r4,trivial⟩,⟨by omega,by omega,q5,by omega⟩,by omega,by omega⟩
theorem qnh {d:DataW H} {p:List MemPlace} {v:Value} (hv:∃ s,v=.string s) (hb:Rows.uptoBulk d≤1048576) (h:DataW.Trod enc Tryz.prog w 0 (fun _=>true) true 9 v d p) :
  ∃ x:ByteArray,Rep (Zw w) (fun _ _=>none) noM v (.c (.str x))∧x.size≤1048576:=by
 obtain ⟨s,rfl⟩:=hv
 obtain ⟨fuel,h⟩:=h
 obtain ⟨a,e,z,_⟩:=DataW.trod_string Tryz.underlying9 h
 injection e with e
 injection e with e
 subst e
 have:=qq5 z
 simp only at this
 exact ⟨s,.c (.str _),by omega⟩
theorem qnb {v:Value} (hv:∃ n,v=.int .i64 n):∃ n:Int,Rep (Zw w) (fun _ _=>none) noM v (.c (.int .i64 n)):=by
 obtain ⟨n,rfl⟩:=hv
 exact ⟨n,.c (.int _ _)⟩
end
end Go.Proofs.YtmacbkjehjbjeaaGreatDoor
namespace Go.Proofs.YtmacbkjehjbjeaaGreatDoor
open Go.Shelf
set_option maxRecDepth 100000
def qk4:Go.Shelf.Ren:=⟨fun|144=>124|143=>152|219=>150|217=>109|225=>172|224=>173|267=>174|266=>136|314=>191|n=>n,fun|9=>9|4=>4|3=>3|5=>5|46=>108|146=>252|51=>150|n=>n,fun|1=>0|n=>n⟩
theorem lays144:Go.Proofs.Lays.n144 Tryz.prog qk4:={
 mixed:=by kernel_rfl
 f143:=Tryz.func152.trans (congrArg some (by kernel_rfl))
 f144:=Tryz.func124.trans (congrArg some (by kernel_rfl))
 f217:=Tryz.func109.trans (congrArg some (by kernel_rfl))
 f219:=Tryz.func150.trans (congrArg some (by kernel_rfl))
 f224:=Tryz.func173.trans (congrArg some (by kernel_rfl))
 f225:=Tryz.func172.trans (congrArg some (by kernel_rfl))
 f266:=Tryz.func136.trans (congrArg some (by kernel_rfl))
 f267:=Tryz.func174.trans (congrArg some (by kernel_rfl))
 f314:=Tryz.func191.trans (congrArg some (by kernel_rfl))
 t3:=Tryz.underlying3
 a3:=Tryz.isAgg3
 z3:=Tryz.sizeOf3
 v3:=Tryz.zeroValue3
 t4:=Tryz.underlying4
 a4:=Tryz.isAgg4
 z4:=Tryz.sizeOf4
 v4:=Tryz.zeroValue4
 t5:=Tryz.underlying5
 a5:=Tryz.isAgg5
 z5:=Tryz.sizeOf5
 v5:=Tryz.zeroValue5
 t9:=Tryz.underlying9
 a9:=Tryz.isAgg9
 z9:=Tryz.sizeOf9
 v9:=Tryz.zeroValue9
 t46:=Tryz.underlying108
 a46:=Tryz.isAgg108
 z46:=Tryz.sizeOf108
 v46:=Tryz.zeroValue108
 t51:=Tryz.underlying150
 a51:=Tryz.isAgg150
 z51:=Tryz.sizeOf150
 v51:=Tryz.zeroValue150
 t146:=Tryz.underlying252
 a146:=Tryz.isAgg252
 z146:=Tryz.sizeOf252
 v146:=Tryz.zeroValue252
 g1:=by kernel_rfl }
def qk5:Go.Shelf.Ren:=⟨fun|145=>89|220=>121|219=>150|217=>109|225=>172|224=>173|267=>174|266=>136|314=>191|n=>n,fun|9=>9|4=>4|59=>106|3=>3|5=>5|46=>108|146=>252|51=>150|n=>n,fun|1=>0|n=>n⟩
theorem lays145:Go.Proofs.Lays.n145 Tryz.prog qk5:={
 mixed:=by kernel_rfl
 f145:=Tryz.func89.trans (congrArg some (by kernel_rfl))
 f217:=Tryz.func109.trans (congrArg some (by kernel_rfl))
 f219:=Tryz.func150.trans (congrArg some (by kernel_rfl))
 f220:=Tryz.func121.trans (congrArg some (by kernel_rfl))
 f224:=Tryz.func173.trans (congrArg some (by kernel_rfl))
 f225:=Tryz.func172.trans (congrArg some (by kernel_rfl))
 f266:=Tryz.func136.trans (congrArg some (by kernel_rfl))
 f267:=Tryz.func174.trans (congrArg some (by kernel_rfl))
 f314:=Tryz.func191.trans (congrArg some (by kernel_rfl))
 t3:=Tryz.underlying3
 a3:=Tryz.isAgg3
 z3:=Tryz.sizeOf3
 v3:=Tryz.zeroValue3
 t4:=Tryz.underlying4
 a4:=Tryz.isAgg4
 z4:=Tryz.sizeOf4
 v4:=Tryz.zeroValue4
 t5:=Tryz.underlying5
 a5:=Tryz.isAgg5
 z5:=Tryz.sizeOf5
 v5:=Tryz.zeroValue5
 t9:=Tryz.underlying9
 a9:=Tryz.isAgg9
 z9:=Tryz.sizeOf9
 v9:=Tryz.zeroValue9
 t46:=Tryz.underlying108
 a46:=Tryz.isAgg108
 z46:=Tryz.sizeOf108
 v46:=Tryz.zeroValue108
 t51:=Tryz.underlying150
 a51:=Tryz.isAgg150
 z51:=Tryz.sizeOf150
 v51:=Tryz.zeroValue150
 t59:=Tryz.underlying106
 a59:=Tryz.isAgg106
 z59:=Tryz.sizeOf106
 v59:=Tryz.zeroValue106
 t146:=Tryz.underlying252
 a146:=Tryz.isAgg252
 z146:=Tryz.sizeOf252
 v146:=Tryz.zeroValue252
 g1:=by kernel_rfl }
def qk3:Go.Shelf.Ren:=⟨fun|137=>79|217=>109|266=>136|n=>n,fun|9=>9|5=>5|3=>3|n=>n,fun|n=>n⟩
theorem lays137:Go.Proofs.Lays.n137 Tryz.prog qk3:={
 mixed:=by kernel_rfl
 f137:=Tryz.func79.trans (congrArg some (by kernel_rfl))
 f217:=Tryz.func109.trans (congrArg some (by kernel_rfl))
 f266:=Tryz.func136.trans (congrArg some (by kernel_rfl))
 t3:=Tryz.underlying3
 a3:=Tryz.isAgg3
 z3:=Tryz.sizeOf3
 v3:=Tryz.zeroValue3
 t5:=Tryz.underlying5
 a5:=Tryz.isAgg5
 z5:=Tryz.sizeOf5
 v5:=Tryz.zeroValue5
 t9:=Tryz.underlying9
 a9:=Tryz.isAgg9
 z9:=Tryz.sizeOf9
 v9:=Tryz.zeroValue9 }
def qk2:Go.Shelf.Ren:=⟨fun|119=>221|n=>n,fun|21=>21|4=>4|n=>n,fun|n=>n⟩
theorem lays119:Go.Proofs.Lays.n119 Tryz.prog qk2:={
 mixed:=by kernel_rfl
 f119:=Tryz.func221.trans (congrArg some (by kernel_rfl))
 t4:=Tryz.underlying4
 a4:=Tryz.isAgg4
 z4:=Tryz.sizeOf4
 v4:=Tryz.zeroValue4
 t21:=Tryz.underlying21
 a21:=Tryz.isAgg21
 z21:=Tryz.sizeOf21
 v21:=Tryz.zeroValue21 }
def qk6:Go.Shelf.Ren:=⟨fun|152=>201|137=>79|119=>221|224=>173|225=>172|217=>109|266=>136|n=>n,fun|9=>9|21=>21|3=>3|4=>4|5=>5|0=>0|46=>108|n=>n,fun|n=>n⟩
theorem lays152:Go.Proofs.Lays.n152 Tryz.prog qk6:={
 mixed:=by kernel_rfl
 f119:=Tryz.func221.trans (congrArg some (by kernel_rfl))
 f137:=Tryz.func79.trans (congrArg some (by kernel_rfl))
 f152:=Tryz.func201.trans (congrArg some (by kernel_rfl))
 f217:=Tryz.func109.trans (congrArg some (by kernel_rfl))
 f224:=Tryz.func173.trans (congrArg some (by kernel_rfl))
 f225:=Tryz.func172.trans (congrArg some (by kernel_rfl))
 f266:=Tryz.func136.trans (congrArg some (by kernel_rfl))
 t0:=Tryz.underlying0
 a0:=Tryz.isAgg0
 z0:=Tryz.sizeOf0
 v0:=Tryz.zeroValue0
 t3:=Tryz.underlying3
 a3:=Tryz.isAgg3
 z3:=Tryz.sizeOf3
 v3:=Tryz.zeroValue3
 t4:=Tryz.underlying4
 a4:=Tryz.isAgg4
 z4:=Tryz.sizeOf4
 v4:=Tryz.zeroValue4
 t5:=Tryz.underlying5
 a5:=Tryz.isAgg5
 z5:=Tryz.sizeOf5
 v5:=Tryz.zeroValue5
 t9:=Tryz.underlying9
 a9:=Tryz.isAgg9
 z9:=Tryz.sizeOf9
 v9:=Tryz.zeroValue9
 t21:=Tryz.underlying21
 a21:=Tryz.isAgg21
 z21:=Tryz.sizeOf21
 v21:=Tryz.zeroValue21
 t46:=Tryz.underlying108
 a46:=Tryz.isAgg108
 z46:=Tryz.sizeOf108
 v46:=Tryz.zeroValue108 }
def qk7:Go.Shelf.Ren:=⟨fun|153=>181|152=>201|226=>202|227=>203|228=>204|137=>79|119=>221|224=>173|225=>172|217=>109|266=>136|n=>n,fun|9=>9|3=>3|4=>4|5=>5|21=>21|117=>275|116=>274|0=>0|46=>108|124=>288|n=>n,fun|n=>n⟩
theorem lays153:Go.Proofs.Lays.n153 Tryz.prog qk7:={
 mixed:=by kernel_rfl
 f119:=Tryz.func221.trans (congrArg some (by kernel_rfl))
 f137:=Tryz.func79.trans (congrArg some (by kernel_rfl))
 f152:=Tryz.func201.trans (congrArg some (by kernel_rfl))
 f153:=Tryz.func181.trans (congrArg some (by kernel_rfl))
 f217:=Tryz.func109.trans (congrArg some (by kernel_rfl))
 f224:=Tryz.func173.trans (congrArg some (by kernel_rfl))
 f225:=Tryz.func172.trans (congrArg some (by kernel_rfl))
 f226:=Tryz.func202.trans (congrArg some (by kernel_rfl))
 f227:=Tryz.func203.trans (congrArg some (by kernel_rfl))
 f228:=Tryz.func204.trans (congrArg some (by kernel_rfl))
 f266:=Tryz.func136.trans (congrArg some (by kernel_rfl))
 t0:=Tryz.underlying0
 a0:=Tryz.isAgg0
 z0:=Tryz.sizeOf0
 v0:=Tryz.zeroValue0
 t3:=Tryz.underlying3
 a3:=Tryz.isAgg3
 z3:=Tryz.sizeOf3
 v3:=Tryz.zeroValue3
 t4:=Tryz.underlying4
 a4:=Tryz.isAgg4
 z4:=Tryz.sizeOf4
 v4:=Tryz.zeroValue4
 t5:=Tryz.underlying5
 a5:=Tryz.isAgg5
 z5:=Tryz.sizeOf5
 v5:=Tryz.zeroValue5
 t9:=Tryz.underlying9
 a9:=Tryz.isAgg9
 z9:=Tryz.sizeOf9
 v9:=Tryz.zeroValue9
 t21:=Tryz.underlying21
 a21:=Tryz.isAgg21
 z21:=Tryz.sizeOf21
 v21:=Tryz.zeroValue21
 t46:=Tryz.underlying108
 a46:=Tryz.isAgg108
 z46:=Tryz.sizeOf108
 v46:=Tryz.zeroValue108
 t116:=Tryz.underlying274
 a116:=Tryz.isAgg274
 z116:=Tryz.sizeOf274
 t117:=Tryz.underlying275
 a117:=Tryz.isAgg275
 z117:=Tryz.sizeOf275
 v117:=Tryz.zeroValue275
 t124:=Tryz.underlying288
 a124:=Tryz.isAgg288
 z124:=Tryz.sizeOf288
 v124:=Tryz.zeroValue288 }
def qk1:Go.Shelf.Ren:=⟨fun|106=>29|213=>54|265=>92|n=>n,fun|9=>9|3=>3|n=>n,fun|n=>n⟩
theorem lays106:Go.Proofs.Lays.n106 Tryz.prog qk1:={
 mixed:=by kernel_rfl
 f106:=Tryz.func29.trans (congrArg some (by kernel_rfl))
 f213:=Tryz.func54.trans (congrArg some (by kernel_rfl))
 f265:=Tryz.func92.trans (congrArg some (by kernel_rfl))
 t3:=Tryz.underlying3
 a3:=Tryz.isAgg3
 z3:=Tryz.sizeOf3
 v3:=Tryz.zeroValue3
 t9:=Tryz.underlying9
 a9:=Tryz.isAgg9
 z9:=Tryz.sizeOf9
 v9:=Tryz.zeroValue9 }
def q196:Go.Shelf.Ren:=⟨fun|171=>171|243=>190|246=>213|283=>229|284=>230|285=>231|286=>232|129=>237|317=>236|318=>238|319=>239|320=>240|337=>243|338=>244|n=>n,fun|3=>3|9=>9|2=>2|4=>4|171=>299|0=>0|53=>60|37=>26|5=>5|173=>302|212=>310|51=>150|20=>20|213=>311|46=>108|232=>318|233=>319|n=>n,fun|17=>5|18=>6|19=>7|n=>n⟩
theorem laysM171:Go.Proofs.LaysM.n171 Tryz.prog q196:={
 mixed:=by kernel_rfl
 f129:=Tryz.func237.trans (congrArg some (by kernel_rfl))
 f171:=Tryz.func171.trans (congrArg some (by kernel_rfl))
 f243:=Tryz.func190.trans (congrArg some (by kernel_rfl))
 f246:=Tryz.func213.trans (congrArg some (by kernel_rfl))
 f283:=Tryz.func229.trans (congrArg some (by kernel_rfl))
 f284:=Tryz.func230.trans (congrArg some (by kernel_rfl))
 f285:=Tryz.func231.trans (congrArg some (by kernel_rfl))
 f286:=Tryz.func232.trans (congrArg some (by kernel_rfl))
 f317:=Tryz.func236.trans (congrArg some (by kernel_rfl))
 f318:=Tryz.func238.trans (congrArg some (by kernel_rfl))
 f319:=Tryz.func239.trans (congrArg some (by kernel_rfl))
 f320:=Tryz.func240.trans (congrArg some (by kernel_rfl))
 f337:=Tryz.func243.trans (congrArg some (by kernel_rfl))
 f338:=Tryz.func244.trans (congrArg some (by kernel_rfl))
 t0:=Tryz.underlying0
 a0:=Tryz.isAgg0
 z0:=Tryz.sizeOf0
 v0:=Tryz.zeroValue0
 t2:=Tryz.underlying2
 a2:=Tryz.isAgg2
 z2:=Tryz.sizeOf2
 v2:=Tryz.zeroValue2
 t3:=Tryz.underlying3
 a3:=Tryz.isAgg3
 z3:=Tryz.sizeOf3
 v3:=Tryz.zeroValue3
 t4:=Tryz.underlying4
 a4:=Tryz.isAgg4
 z4:=Tryz.sizeOf4
 v4:=Tryz.zeroValue4
 t5:=Tryz.underlying5
 a5:=Tryz.isAgg5
 z5:=Tryz.sizeOf5
 v5:=Tryz.zeroValue5
 t9:=Tryz.underlying9
 a9:=Tryz.isAgg9
 z9:=Tryz.sizeOf9
 v9:=Tryz.zeroValue9
 t20:=Tryz.underlying20
 a20:=Tryz.isAgg20
 z20:=Tryz.sizeOf20
 v20:=Tryz.zeroValue20
 t37:=Tryz.underlying26
 a37:=Tryz.isAgg26
 z37:=Tryz.sizeOf26
 v37:=Tryz.zeroValue26
 t46:=Tryz.underlying108
 a46:=Tryz.isAgg108
 z46:=Tryz.sizeOf108
 v46:=Tryz.zeroValue108
 t51:=Tryz.underlying150
 a51:=Tryz.isAgg150
 z51:=Tryz.sizeOf150
 v51:=Tryz.zeroValue150
 t53:=Tryz.underlying60
 a53:=Tryz.isAgg60
 z53:=Tryz.sizeOf60
 v53:=Tryz.zeroValue60
 t171:=Tryz.underlying299
 a171:=Tryz.isAgg299
 z171:=Tryz.sizeOf299
 v171:=Tryz.zeroValue299
 t173:=Tryz.underlying302
 a173:=Tryz.isAgg302
 z173:=Tryz.sizeOf302
 v173:=Tryz.zeroValue302
 t212:=Tryz.underlying310
 a212:=Tryz.isAgg310
 z212:=Tryz.sizeOf310
 v212:=Tryz.zeroValue310
 t213:=Tryz.underlying311
 a213:=Tryz.isAgg311
 z213:=Tryz.sizeOf311
 t232:=Tryz.underlying318
 a232:=Tryz.isAgg318
 z232:=Tryz.sizeOf318
 v232:=Tryz.zeroValue318
 t233:=Tryz.underlying319
 a233:=Tryz.isAgg319
 z233:=Tryz.sizeOf319
 v233:=Tryz.zeroValue319
 g17:=by kernel_rfl
 g18:=by kernel_rfl
 g19:=by kernel_rfl
 i0:=by kernel_rfl
 i2:=by kernel_rfl
 i3:=by kernel_rfl
 i4:=by kernel_rfl
 i5:=by kernel_rfl
 i9:=by kernel_rfl
 i20:=by kernel_rfl
 i37:=by kernel_rfl
 i46:=by kernel_rfl
 i51:=by kernel_rfl
 i53:=by kernel_rfl
 i171:=by kernel_rfl
 i173:=by kernel_rfl
 i212:=by kernel_rfl
 i232:=by kernel_rfl
 i233:=by kernel_rfl
 m17:=by kernel_rfl
 m18:=by kernel_rfl
 m19:=by kernel_rfl }
def q195:Go.Shelf.Ren:=⟨fun|172=>187|244=>210|245=>211|247=>224|279=>225|280=>226|281=>227|282=>228|287=>233|316=>234|171=>171|205=>235|321=>241|322=>242|243=>190|246=>213|283=>229|284=>230|285=>231|286=>232|129=>237|317=>236|318=>238|319=>239|320=>240|337=>243|338=>244|n=>n,fun|9=>9|3=>3|75=>175|76=>176|4=>4|5=>5|167=>293|37=>26|0=>0|85=>294|2=>2|168=>296|53=>60|175=>304|46=>108|210=>307|127=>195|145=>316|143=>314|21=>21|171=>299|173=>302|212=>310|51=>150|20=>20|213=>311|232=>318|233=>319|80=>178|n=>n,fun|15=>3|16=>4|17=>5|18=>6|19=>7|n=>n⟩
theorem laysC172:Go.Proofs.LaysC.n172 Tryz.prog q195:={
 mixed:=by kernel_rfl
 f129:=Tryz.func237.trans (congrArg some (by kernel_rfl))
 f171:=Tryz.func171.trans (congrArg some (by kernel_rfl))
 f172:=Tryz.func187.trans (congrArg some (by kernel_rfl))
 f205:=Tryz.func235.trans (congrArg some (by kernel_rfl))
 f243:=Tryz.func190.trans (congrArg some (by kernel_rfl))
 f244:=Tryz.func210.trans (congrArg some (by kernel_rfl))
 f245:=Tryz.func211.trans (congrArg some (by kernel_rfl))
 f246:=Tryz.func213.trans (congrArg some (by kernel_rfl))
 f247:=Tryz.func224.trans (congrArg some (by kernel_rfl))
 f279:=Tryz.func225.trans (congrArg some (by kernel_rfl))
 f280:=Tryz.func226.trans (congrArg some (by kernel_rfl))
 f281:=Tryz.func227.trans (congrArg some (by kernel_rfl))
 f282:=Tryz.func228.trans (congrArg some (by kernel_rfl))
 f283:=Tryz.func229.trans (congrArg some (by kernel_rfl))
 f284:=Tryz.func230.trans (congrArg some (by kernel_rfl))
 f285:=Tryz.func231.trans (congrArg some (by kernel_rfl))
 f286:=Tryz.func232.trans (congrArg some (by kernel_rfl))
 f287:=Tryz.func233.trans (congrArg some (by kernel_rfl))
 f316:=Tryz.func234.trans (congrArg some (by kernel_rfl))
 f317:=Tryz.func236.trans (congrArg some (by kernel_rfl))
 f318:=Tryz.func238.trans (congrArg some (by kernel_rfl))
 f319:=Tryz.func239.trans (congrArg some (by kernel_rfl))
 f320:=Tryz.func240.trans (congrArg some (by kernel_rfl))
 f321:=Tryz.func241.trans (congrArg some (by kernel_rfl))
 f322:=Tryz.func242.trans (congrArg some (by kernel_rfl))
 f337:=Tryz.func243.trans (congrArg some (by kernel_rfl))
 f338:=Tryz.func244.trans (congrArg some (by kernel_rfl))
 t0:=Tryz.underlying0
 a0:=Tryz.isAgg0
 z0:=Tryz.sizeOf0
 v0:=Tryz.zeroValue0
 t2:=Tryz.underlying2
 a2:=Tryz.isAgg2
 z2:=Tryz.sizeOf2
 v2:=Tryz.zeroValue2
 t3:=Tryz.underlying3
 a3:=Tryz.isAgg3
 z3:=Tryz.sizeOf3
 v3:=Tryz.zeroValue3
 t4:=Tryz.underlying4
 a4:=Tryz.isAgg4
 z4:=Tryz.sizeOf4
 v4:=Tryz.zeroValue4
 t5:=Tryz.underlying5
 a5:=Tryz.isAgg5
 z5:=Tryz.sizeOf5
 v5:=Tryz.zeroValue5
 t9:=Tryz.underlying9
 a9:=Tryz.isAgg9
 z9:=Tryz.sizeOf9
 v9:=Tryz.zeroValue9
 t20:=Tryz.underlying20
 a20:=Tryz.isAgg20
 z20:=Tryz.sizeOf20
 v20:=Tryz.zeroValue20
 t21:=Tryz.underlying21
 a21:=Tryz.isAgg21
 z21:=Tryz.sizeOf21
 v21:=Tryz.zeroValue21
 t37:=Tryz.underlying26
 a37:=Tryz.isAgg26
 z37:=Tryz.sizeOf26
 v37:=Tryz.zeroValue26
 t46:=Tryz.underlying108
 a46:=Tryz.isAgg108
 z46:=Tryz.sizeOf108
 v46:=Tryz.zeroValue108
 t51:=Tryz.underlying150
 a51:=Tryz.isAgg150
 z51:=Tryz.sizeOf150
 v51:=Tryz.zeroValue150
 t53:=Tryz.underlying60
 a53:=Tryz.isAgg60
 z53:=Tryz.sizeOf60
 v53:=Tryz.zeroValue60
 t75:=Tryz.underlying175
 a75:=Tryz.isAgg175
 z75:=Tryz.sizeOf175
 v75:=Tryz.zeroValue175
 t76:=Tryz.underlying176
 a76:=Tryz.isAgg176
 z76:=Tryz.sizeOf176
 v76:=Tryz.zeroValue176
 t85:=Tryz.underlying294
 a85:=Tryz.isAgg294
 z85:=Tryz.sizeOf294
 v85:=Tryz.zeroValue294
 t127:=Tryz.underlying195
 a127:=Tryz.isAgg195
 z127:=Tryz.sizeOf195
 v127:=Tryz.zeroValue195
 t143:=Tryz.underlying314
 a143:=Tryz.isAgg314
 z143:=Tryz.sizeOf314
 v143:=Tryz.zeroValue314
 t145:=Tryz.underlying316
 a145:=Tryz.isAgg316
 z145:=Tryz.sizeOf316
 v145:=Tryz.zeroValue316
 t167:=Tryz.underlying293
 a167:=Tryz.isAgg293
 z167:=Tryz.sizeOf293
 v167:=Tryz.zeroValue293
 t168:=Tryz.underlying296
 a168:=Tryz.isAgg296
 z168:=Tryz.sizeOf296
 v168:=Tryz.zeroValue296
 t171:=Tryz.underlying299
 a171:=Tryz.isAgg299
 z171:=Tryz.sizeOf299
 v171:=Tryz.zeroValue299
 t173:=Tryz.underlying302
 a173:=Tryz.isAgg302
 z173:=Tryz.sizeOf302
 v173:=Tryz.zeroValue302
 t175:=Tryz.underlying304
 a175:=Tryz.isAgg304
 z175:=Tryz.sizeOf304
 v175:=Tryz.zeroValue304
 t210:=Tryz.underlying307
 a210:=Tryz.isAgg307
 z210:=Tryz.sizeOf307
 v210:=Tryz.zeroValue307
 t212:=Tryz.underlying310
 a212:=Tryz.isAgg310
 z212:=Tryz.sizeOf310
 v212:=Tryz.zeroValue310
 t213:=Tryz.underlying311
 a213:=Tryz.isAgg311
 z213:=Tryz.sizeOf311
 t232:=Tryz.underlying318
 a232:=Tryz.isAgg318
 z232:=Tryz.sizeOf318
 v232:=Tryz.zeroValue318
 t233:=Tryz.underlying319
 a233:=Tryz.isAgg319
 z233:=Tryz.sizeOf319
 v233:=Tryz.zeroValue319
 g15:=by kernel_rfl
 g16:=by kernel_rfl
 g17:=by kernel_rfl
 g18:=by kernel_rfl
 g19:=by kernel_rfl
 t80:=Tryz.underlying178
 a80:=Tryz.isAgg178
 z80:=Tryz.sizeOf178
 v80:=Tryz.zeroValue178
 i0:=by kernel_rfl
 i2:=by kernel_rfl
 i3:=by kernel_rfl
 i4:=by kernel_rfl
 i5:=by kernel_rfl
 i9:=by kernel_rfl
 i20:=by kernel_rfl
 i21:=by kernel_rfl
 i37:=by kernel_rfl
 i46:=by kernel_rfl
 i51:=by kernel_rfl
 i53:=by kernel_rfl
 i75:=by kernel_rfl
 i76:=by kernel_rfl
 i80:=by kernel_rfl
 i85:=by kernel_rfl
 i127:=by kernel_rfl
 i143:=by kernel_rfl
 i145:=by kernel_rfl
 i167:=by kernel_rfl
 i168:=by kernel_rfl
 i171:=by kernel_rfl
 i173:=by kernel_rfl
 i175:=by kernel_rfl
 i210:=by kernel_rfl
 i212:=by kernel_rfl
 i232:=by kernel_rfl
 i233:=by kernel_rfl
 m15:=by kernel_rfl
 m16:=by kernel_rfl
 m17:=by kernel_rfl
 m18:=by kernel_rfl
 m19:=by kernel_rfl
 c0:=by kernel_rfl
 c2:=by kernel_rfl
 c3:=by kernel_rfl
 c4:=by kernel_rfl
 c5:=by kernel_rfl
 c9:=by kernel_rfl
 c20:=by kernel_rfl
 c21:=by kernel_rfl
 c37:=by kernel_rfl
 c46:=by kernel_rfl
 c51:=by kernel_rfl
 c53:=by kernel_rfl
 c75:=by kernel_rfl
 c76:=by kernel_rfl
 c80:=by kernel_rfl
 c85:=by kernel_rfl
 c127:=by kernel_rfl
 c143:=by kernel_rfl
 c145:=by kernel_rfl
 c167:=by kernel_rfl
 c168:=by kernel_rfl
 c171:=by kernel_rfl
 c173:=by kernel_rfl
 c175:=by kernel_rfl
 c210:=by kernel_rfl
 c212:=by kernel_rfl
 c213:=by kernel_rfl
 c232:=by kernel_rfl
 c233:=by kernel_rfl }
def q191:Go.Shelf.Ren:=⟨fun|156=>74|165=>105|166=>106|169=>107|240=>134|241=>135|276=>163|277=>164|n=>n,fun|31=>61|9=>9|3=>3|4=>4|0=>0|20=>20|72=>172|76=>176|70=>170|37=>26|75=>175|127=>195|164=>224|5=>5|80=>178|n=>n,fun|n=>n⟩
theorem lays156:Go.Proofs.Lays.n156 Tryz.prog q191:={
 mixed:=by kernel_rfl
 f156:=Tryz.func74.trans (congrArg some (by kernel_rfl))
 f165:=Tryz.func105.trans (congrArg some (by kernel_rfl))
 f166:=Tryz.func106.trans (congrArg some (by kernel_rfl))
 f169:=Tryz.func107.trans (congrArg some (by kernel_rfl))
 f240:=Tryz.func134.trans (congrArg some (by kernel_rfl))
 f241:=Tryz.func135.trans (congrArg some (by kernel_rfl))
 f276:=Tryz.func163.trans (congrArg some (by kernel_rfl))
 f277:=Tryz.func164.trans (congrArg some (by kernel_rfl))
 t0:=Tryz.underlying0
 a0:=Tryz.isAgg0
 z0:=Tryz.sizeOf0
 v0:=Tryz.zeroValue0
 t3:=Tryz.underlying3
 a3:=Tryz.isAgg3
 z3:=Tryz.sizeOf3
 v3:=Tryz.zeroValue3
 t4:=Tryz.underlying4
 a4:=Tryz.isAgg4
 z4:=Tryz.sizeOf4
 v4:=Tryz.zeroValue4
 t9:=Tryz.underlying9
 a9:=Tryz.isAgg9
 z9:=Tryz.sizeOf9
 v9:=Tryz.zeroValue9
 t20:=Tryz.underlying20
 a20:=Tryz.isAgg20
 z20:=Tryz.sizeOf20
 v20:=Tryz.zeroValue20
 t31:=Tryz.underlying61
 a31:=Tryz.isAgg61
 z31:=Tryz.sizeOf61
 v31:=Tryz.zeroValue61
 t37:=Tryz.underlying26
 a37:=Tryz.isAgg26
 z37:=Tryz.sizeOf26
 v37:=Tryz.zeroValue26
 t70:=Tryz.underlying170
 a70:=Tryz.isAgg170
 z70:=Tryz.sizeOf170
 v70:=Tryz.zeroValue170
 t72:=Tryz.underlying172
 a72:=Tryz.isAgg172
 z72:=Tryz.sizeOf172
 v72:=Tryz.zeroValue172
 t75:=Tryz.underlying175
 a75:=Tryz.isAgg175
 z75:=Tryz.sizeOf175
 v75:=Tryz.zeroValue175
 t76:=Tryz.underlying176
 a76:=Tryz.isAgg176
 z76:=Tryz.sizeOf176
 v76:=Tryz.zeroValue176
 t127:=Tryz.underlying195
 a127:=Tryz.isAgg195
 z127:=Tryz.sizeOf195
 v127:=Tryz.zeroValue195
 t164:=Tryz.underlying224
 a164:=Tryz.isAgg224
 z164:=Tryz.sizeOf224
 v164:=Tryz.zeroValue224 }
def q190:Go.Shelf.Ren:=⟨fun|105=>133|212=>161|99=>123|165=>105|166=>106|170=>162|169=>107|263=>185|264=>186|206=>151|240=>134|241=>135|276=>163|277=>164|n=>n,fun|9=>9|3=>3|4=>4|20=>20|0=>0|46=>108|109=>222|5=>5|72=>172|76=>176|51=>150|146=>252|53=>60|148=>254|70=>170|37=>26|75=>175|127=>195|164=>224|80=>178|n=>n,fun|n=>n⟩
theorem lays105:Go.Proofs.Lays.n105 Tryz.prog q190:={
 mixed:=by kernel_rfl
 f99:=Tryz.func123.trans (congrArg some (by kernel_rfl))
 f105:=Tryz.func133.trans (congrArg some (by kernel_rfl))
 f165:=Tryz.func105.trans (congrArg some (by kernel_rfl))
 f166:=Tryz.func106.trans (congrArg some (by kernel_rfl))
 f169:=Tryz.func107.trans (congrArg some (by kernel_rfl))
 f170:=Tryz.func162.trans (congrArg some (by kernel_rfl))
 f206:=Tryz.func151.trans (congrArg some (by kernel_rfl))
 f212:=Tryz.func161.trans (congrArg some (by kernel_rfl))
 f240:=Tryz.func134.trans (congrArg some (by kernel_rfl))
 f241:=Tryz.func135.trans (congrArg some (by kernel_rfl))
 f263:=Tryz.func185.trans (congrArg some (by kernel_rfl))
 f264:=Tryz.func186.trans (congrArg some (by kernel_rfl))
 f276:=Tryz.func163.trans (congrArg some (by kernel_rfl))
 f277:=Tryz.func164.trans (congrArg some (by kernel_rfl))
 t0:=Tryz.underlying0
 a0:=Tryz.isAgg0
 z0:=Tryz.sizeOf0
 v0:=Tryz.zeroValue0
 t3:=Tryz.underlying3
 a3:=Tryz.isAgg3
 z3:=Tryz.sizeOf3
 v3:=Tryz.zeroValue3
 t4:=Tryz.underlying4
 a4:=Tryz.isAgg4
 z4:=Tryz.sizeOf4
 v4:=Tryz.zeroValue4
 t5:=Tryz.underlying5
 a5:=Tryz.isAgg5
 z5:=Tryz.sizeOf5
 v5:=Tryz.zeroValue5
 t9:=Tryz.underlying9
 a9:=Tryz.isAgg9
 z9:=Tryz.sizeOf9
 v9:=Tryz.zeroValue9
 t20:=Tryz.underlying20
 a20:=Tryz.isAgg20
 z20:=Tryz.sizeOf20
 v20:=Tryz.zeroValue20
 t37:=Tryz.underlying26
 a37:=Tryz.isAgg26
 z37:=Tryz.sizeOf26
 v37:=Tryz.zeroValue26
 t46:=Tryz.underlying108
 a46:=Tryz.isAgg108
 z46:=Tryz.sizeOf108
 v46:=Tryz.zeroValue108
 t51:=Tryz.underlying150
 a51:=Tryz.isAgg150
 z51:=Tryz.sizeOf150
 v51:=Tryz.zeroValue150
 t53:=Tryz.underlying60
 a53:=Tryz.isAgg60
 z53:=Tryz.sizeOf60
 v53:=Tryz.zeroValue60
 t70:=Tryz.underlying170
 a70:=Tryz.isAgg170
 z70:=Tryz.sizeOf170
 v70:=Tryz.zeroValue170
 t72:=Tryz.underlying172
 a72:=Tryz.isAgg172
 z72:=Tryz.sizeOf172
 v72:=Tryz.zeroValue172
 t75:=Tryz.underlying175
 a75:=Tryz.isAgg175
 z75:=Tryz.sizeOf175
 v75:=Tryz.zeroValue175
 t76:=Tryz.underlying176
 a76:=Tryz.isAgg176
 z76:=Tryz.sizeOf176
 v76:=Tryz.zeroValue176
 t109:=Tryz.underlying222
 a109:=Tryz.isAgg222
 z109:=Tryz.sizeOf222
 v109:=Tryz.zeroValue222
 t127:=Tryz.underlying195
 a127:=Tryz.isAgg195
 z127:=Tryz.sizeOf195
 v127:=Tryz.zeroValue195
 t146:=Tryz.underlying252
 a146:=Tryz.isAgg252
 z146:=Tryz.sizeOf252
 v146:=Tryz.zeroValue252
 t148:=Tryz.underlying254
 a148:=Tryz.isAgg254
 z148:=Tryz.sizeOf254
 v148:=Tryz.zeroValue254
 t164:=Tryz.underlying224
 a164:=Tryz.isAgg224
 z164:=Tryz.sizeOf224
 v164:=Tryz.zeroValue224 }
def q193:Go.Shelf.Ren:=⟨fun|169=>107|n=>n,fun|70=>170|9=>9|0=>0|72=>172|37=>26|127=>195|3=>3|5=>5|n=>n,fun|n=>n⟩
theorem lays169:Go.Proofs.Lays.n169 Tryz.prog q193:={
 mixed:=by kernel_rfl
 f169:=Tryz.func107.trans (congrArg some (by kernel_rfl))
 t0:=Tryz.underlying0
 a0:=Tryz.isAgg0
 z0:=Tryz.sizeOf0
 v0:=Tryz.zeroValue0
 t3:=Tryz.underlying3
 a3:=Tryz.isAgg3
 z3:=Tryz.sizeOf3
 v3:=Tryz.zeroValue3
 t9:=Tryz.underlying9
 a9:=Tryz.isAgg9
 z9:=Tryz.sizeOf9
 v9:=Tryz.zeroValue9
 t37:=Tryz.underlying26
 a37:=Tryz.isAgg26
 z37:=Tryz.sizeOf26
 v37:=Tryz.zeroValue26
 t70:=Tryz.underlying170
 a70:=Tryz.isAgg170
 z70:=Tryz.sizeOf170
 v70:=Tryz.zeroValue170
 t72:=Tryz.underlying172
 a72:=Tryz.isAgg172
 z72:=Tryz.sizeOf172
 v72:=Tryz.zeroValue172
 t127:=Tryz.underlying195
 a127:=Tryz.isAgg195
 z127:=Tryz.sizeOf195
 v127:=Tryz.zeroValue195 }
def q194:Go.Shelf.Ren:=⟨fun|185=>184|187=>206|115=>207|253=>208|224=>173|254=>209|255=>222|291=>223|n=>n,fun|37=>26|3=>3|4=>4|0=>0|5=>5|46=>108|9=>9|146=>252|51=>150|n=>n,fun|1=>0|n=>n⟩
theorem lays185:Go.Proofs.Lays.n185 Tryz.prog q194:={
 mixed:=by kernel_rfl
 f115:=Tryz.func207.trans (congrArg some (by kernel_rfl))
 f185:=Tryz.func184.trans (congrArg some (by kernel_rfl))
 f187:=Tryz.func206.trans (congrArg some (by kernel_rfl))
 f224:=Tryz.func173.trans (congrArg some (by kernel_rfl))
 f253:=Tryz.func208.trans (congrArg some (by kernel_rfl))
 f254:=Tryz.func209.trans (congrArg some (by kernel_rfl))
 f255:=Tryz.func222.trans (congrArg some (by kernel_rfl))
 f291:=Tryz.func223.trans (congrArg some (by kernel_rfl))
 t0:=Tryz.underlying0
 a0:=Tryz.isAgg0
 z0:=Tryz.sizeOf0
 v0:=Tryz.zeroValue0
 t3:=Tryz.underlying3
 a3:=Tryz.isAgg3
 z3:=Tryz.sizeOf3
 v3:=Tryz.zeroValue3
 t4:=Tryz.underlying4
 a4:=Tryz.isAgg4
 z4:=Tryz.sizeOf4
 v4:=Tryz.zeroValue4
 t5:=Tryz.underlying5
 a5:=Tryz.isAgg5
 z5:=Tryz.sizeOf5
 v5:=Tryz.zeroValue5
 t9:=Tryz.underlying9
 a9:=Tryz.isAgg9
 z9:=Tryz.sizeOf9
 v9:=Tryz.zeroValue9
 t37:=Tryz.underlying26
 a37:=Tryz.isAgg26
 z37:=Tryz.sizeOf26
 v37:=Tryz.zeroValue26
 t46:=Tryz.underlying108
 a46:=Tryz.isAgg108
 z46:=Tryz.sizeOf108
 v46:=Tryz.zeroValue108
 t51:=Tryz.underlying150
 a51:=Tryz.isAgg150
 z51:=Tryz.sizeOf150
 v51:=Tryz.zeroValue150
 t146:=Tryz.underlying252
 a146:=Tryz.isAgg252
 z146:=Tryz.sizeOf252
 v146:=Tryz.zeroValue252
 g1:=by kernel_rfl }
theorem q172:Builder.Extra Tryz.prog q191:={
 sizeBuilder:=by kernel_rfl
 liesBuilder:=by kernel_rfl
 t5:=Tryz.underlying5
 a5:=Tryz.isAgg5
 z5:=Tryz.sizeOf5
 v5:=Tryz.zeroValue5
 infoByte:=by kernel_rfl
 cellsByte:=by kernel_rfl
 sizeByte:=by kernel_rfl
 neB5:=by decide }
theorem q171:Builder.Extra Tryz.prog q190:={
 sizeBuilder:=by kernel_rfl
 liesBuilder:=by kernel_rfl
 t5:=Tryz.underlying5
 a5:=Tryz.isAgg5
 z5:=Tryz.sizeOf5
 v5:=Tryz.zeroValue5
 infoByte:=by kernel_rfl
 cellsByte:=by kernel_rfl
 sizeByte:=by kernel_rfl
 neB5:=by decide }
theorem q174:Builder.Extra Tryz.prog q193:={
 sizeBuilder:=by kernel_rfl
 liesBuilder:=by kernel_rfl
 t5:=Tryz.underlying5
 a5:=Tryz.isAgg5
 z5:=Tryz.sizeOf5
 v5:=Tryz.zeroValue5
 infoByte:=by kernel_rfl
 cellsByte:=by kernel_rfl
 sizeByte:=by kernel_rfl
 neB5:=by decide }
def q192:Go.Shelf.Ren:=⟨fun|166=>106|240=>134|276=>163|n=>n,fun|0=>0|3=>3|4=>4|9=>9|20=>20|37=>26|5=>5|70=>170|72=>172|75=>175|80=>178|164=>224|n=>n,fun|n=>n⟩
theorem lays166:Go.Proofs.Lays.n166 Tryz.prog q192:={
 mixed:=by kernel_rfl
 f166:=Tryz.func106.trans (congrArg some (by kernel_rfl))
 f240:=Tryz.func134.trans (congrArg some (by kernel_rfl))
 f276:=Tryz.func163.trans (congrArg some (by kernel_rfl))
 t0:=Tryz.underlying0
 a0:=Tryz.isAgg0
 z0:=Tryz.sizeOf0
 v0:=Tryz.zeroValue0
 t3:=Tryz.underlying3
 a3:=Tryz.isAgg3
 z3:=Tryz.sizeOf3
 v3:=Tryz.zeroValue3
 t4:=Tryz.underlying4
 a4:=Tryz.isAgg4
 z4:=Tryz.sizeOf4
 v4:=Tryz.zeroValue4
 t9:=Tryz.underlying9
 a9:=Tryz.isAgg9
 z9:=Tryz.sizeOf9
 v9:=Tryz.zeroValue9
 t20:=Tryz.underlying20
 a20:=Tryz.isAgg20
 z20:=Tryz.sizeOf20
 v20:=Tryz.zeroValue20
 t37:=Tryz.underlying26
 a37:=Tryz.isAgg26
 z37:=Tryz.sizeOf26
 v37:=Tryz.zeroValue26
 t70:=Tryz.underlying170
 a70:=Tryz.isAgg170
 z70:=Tryz.sizeOf170
 v70:=Tryz.zeroValue170
 t72:=Tryz.underlying172
 a72:=Tryz.isAgg172
 z72:=Tryz.sizeOf172
 v72:=Tryz.zeroValue172
 t75:=Tryz.underlying175
 a75:=Tryz.isAgg175
 z75:=Tryz.sizeOf175
 v75:=Tryz.zeroValue175
 t164:=Tryz.underlying224
 a164:=Tryz.isAgg224
 z164:=Tryz.sizeOf224
 v164:=Tryz.zeroValue224 }
theorem q173:Builder.Extra Tryz.prog q192:={
 sizeBuilder:=by kernel_rfl
 liesBuilder:=by kernel_rfl
 t5:=Tryz.underlying5
 a5:=Tryz.isAgg5
 z5:=Tryz.sizeOf5
 v5:=Tryz.zeroValue5
 infoByte:=by kernel_rfl
 cellsByte:=by kernel_rfl
 sizeByte:=by kernel_rfl
 neB5:=by decide }
end Go.Proofs.YtmacbkjehjbjeaaGreatDoor
