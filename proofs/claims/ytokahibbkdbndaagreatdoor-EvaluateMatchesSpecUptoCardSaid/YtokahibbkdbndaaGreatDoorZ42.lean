/- (*evaluate.run).expand: a text with the values of variables put in. -/
import Derived.Test.YtokahibbkdbndaaGreatDoorZ41
import Derived.Maps.OwnOps
import Derived.Test.YtokahibbkdbndaaGreatDoorZ40
import Derived.HandedShaped
import Derived.ChangeMaps5
import Derived.Deep.DeepHandedRow
import Derived.Lib.LaidU8
import Derived.Lib.LaidIn
namespace Go.Proofs.YtokahibbkdbndaaGreatDoor
open Go.RowKit Go.Maps
theorem q9h (s sep:ByteArray) (m:Int) (w:World) (hs:s.size<4294967281) (hm:w.cell? ⟨0,0,none⟩=some (.int .i64 m)) :
  Calls Tryz.prog 105 #[.string s,.string sep] w fun e w'=>e=.returned (.tuple #[.string ⟨(Lib.cut s.data.toList sep.data.toList).1.toArray⟩,.string ⟨(Lib.cut s.data.toList sep.data.toList).2.1.toArray⟩,.bool (Lib.cut s.data.toList sep.data.toList).2.2])∧∃ n,w'=w.drewN n:=Any.strings_Cut lays145 s sep m w hs hm
theorem q1m6 (B b:Nat) (bs:List Value) (s:ByteArray) (w:World) (h:Lib.IsBuilder 157 5 B b bs w) (hlen:bs.length+s.size≤140737488355328) (hBw:B≤w.heap.size) :
  Calls Tryz.prog 106 #[.pointer (some ⟨b,0,none⟩),.string s] w fun e w'=>e=.returned (.tuple #[.int .i64 s.size,.nilIface])∧(Lib.BuilderAt 157 5 B b (.pointer (some ⟨b,0,none⟩)) (bs++Lib.strCells s) w'∧Below B w w'):=Any.Builder_WriteString lays166 q9 B b bs s w h hlen hBw
theorem q7t (B b:Nat) (l:List UInt8) (w:World) (h:Lib.IsBuilder 157 5 B b (Lib.byteCells l) w) (hBw:B≤w.heap.size) :
  Calls Tryz.prog 107 #[.pointer (some ⟨b,0,none⟩)] w fun e w'=>e=.returned (.string ⟨l.toArray⟩)∧Below B w w':=Any.Builder_String_any lays169 qa B b l w h hBw
theorem q41 (k:List UInt8):∀ l:List (ByteArray×ByteArray),(datM l).atKey (.string k) (.lit (.string []))=.lit (.string (getM l k)):=by
 intro l
 unfold datM DataW.atKey getM
 simp only
 induction l with
 |nil=>rfl
 |cons p l ih =>
  rw [List.map_cons,List.find?_cons,List.find?_cons]
  have:(litM p).1.sameKey (.string k)=(p.1.data.toList==k):=rfl
  simp only [this]
  cases p.1.data.toList==k with
  |true=>rfl
  |false=>exact ih
theorem q1lw {P:Program} (w:World) {ops:Array Oper} {rest:List Oper} {o:Oper} {a:Act} {Q:Exit→Act→World→Prop}
  (hg:o.guard=none) (m x:Operand) (t:TypeId) (hop:o.op=Op.lookup t m x false) (k:TypeId) (ht:P.underlying t=some (.map k k)) (he:P.underlying k=some .string) (hz:(zeroValue k).run P w=.ok (.string ⟨#[]⟩) w) (b n:Nat) (l:List (ByteArray×ByteArray))
  (hm:a.eval m=.map (some b)) (hown:w.ownsMap P k (RM P k) b n (datM l)) (key:ByteArray) (hx:a.eval x=.string key) (hks:key.size≤maxLen)
  (hK:wpList P ops Q rest (a.put o.dst (.string ⟨(getM l key.data.toList).toArray⟩)) w):wpList P ops Q (o::rest) a w:=by
 refine wpList_plain hg fun K' hK'=>?_
 obtain ⟨v,ps,hrun,hv⟩:=hown.lookup (t:=t) (e:=k) (Maps.string_keyed he) ht hz (zd:=.lit (.string [])) (zp:=[]) (plainElem_string he (s:=⟨#[]⟩) (Nat.zero_le _)) (key:=.string key) (kl:=.string key.data.toList) ((qr7 he _ _).2 ⟨key,rfl,hks,rfl⟩)
 rw [q41] at hv
 have hv2:v=.string ⟨(getM l key.data.toList).toArray⟩:=by
  unfold RM plainElem at hv
  rw [he] at hv
  cases v <;> simp at hv
  rename_i s
  have e:=hv.2.1
  rw [←e,Array.toArray_toList]
 subst hv2
 unfold Oper.wp
 simp [execOp,hop,hm,hx,hrun,Result.andThen]
 exact hK' _ _ hK
theorem qvt {P:Program} {k:TypeId} {b n:Nat} {D:DataW Unit} {w w':World} (h:w.ownsMap P k (RM P k) b n D) (e:w'.heap[b]?=w.heap[b]?):w'.ownsMap P k (RM P k) b n D:=by
 obtain ⟨es,clock,hb,r⟩:=h
 exact ⟨es,clock,by rw [e];exact hb,r⟩
theorem q9j (s:List UInt8) (sep:List UInt8) (h:(Lib.cut s sep).2.2=true):(Lib.cut s sep).2.1.length+sep.length≤s.length:=by
 unfold Lib.cut at *
 split at h
 ·rename_i h0
  rw [if_pos h0]
  have:=Lib.index_room s sep h0
  simp only [List.length_drop]
  omega
 ·cases h
theorem q9k (s:List UInt8) (sep:List UInt8):(Lib.cut s sep).2.1.length≤s.length∧(Lib.cut s sep).1.length≤s.length:=by
 unfold Lib.cut
 split
 ·simp;omega
 ·simp
theorem q8v (w:World) (n:Nat) (a:Addr):(w.drewN n).cell? a=w.cell? a:=rfl
theorem q80 (out a b:List UInt8):Lib.byteCells out++Lib.strCells (⟨a.toArray⟩++⟨b.toArray⟩)=Lib.byteCells (out++(a++b)):=by
 have:(⟨a.toArray⟩++⟨b.toArray⟩:ByteArray)=⟨(a++b).toArray⟩:=by
  apply ByteArray.ext
  simp
 rw [this]
 show Lib.byteCells out++Lib.byteCells (a++b)=_
 simp [Lib.byteCells]
theorem qql {T e:TypeId} {B b:Nat} {bs:List Value} {w:World} (h:Lib.IsBuilder T e B b bs w) (n:Nat):Lib.IsBuilder T e B b bs (w.drewN n):=h
theorem qqk {T e:TypeId} {w:World} {P:Program}:Lib.IsBuilder T e w.heap.size w.heap.size (Lib.byteCells []) (w.alloc (Obj.cells #[Value.pointer none,Value.slice none 0 0] T)):=by
 refine .inl ⟨Nat.le_refl _,.slice none 0 0,(MapKept.heap_alloc w _).1,World.ownsRow_nil _ _ _ _,?_⟩
 simp [Value.ownBlock]
theorem q7d {B:Nat} {a w:World} (h:Below B a w) (n:Nat):Below B a (w.drewN n):=⟨h.os,h.tape,h.output,h.size,h.block⟩
theorem q7b (w:World) (o:Obj):Below w.heap.size w (w.alloc o):=(Below.refl _ w).alloc (Nat.le_refl _) o
theorem q1kj (r:List UInt8):(⟨r.toArray⟩:ByteArray).extract 0 (min (r.length:Int) 4000).toNat=⟨(r.take 4000).toArray⟩:=by
 have e:(min (r.length:Int) 4000).toNat=min r.length 4000:=by omega
 rw [e]
 apply ByteArray.ext
 rw [ByteArray.data_extract]
 simp
 omega
set_option maxHeartbeats 4000000 in
set_option maxRecDepth 100000 in
theorem qj6 (g b n:Nat) (m:Int) (l:List (ByteArray×ByteArray)) (s:ByteArray) (w:World) (r:List UInt8) (hs:s.size<4294967281) (hm:w.cell? ⟨0,0,none⟩=some (.int .i64 m)) (hg:w.cell? ⟨g,6,none⟩=some (.map (some b)))
  (hown:w.ownsMap Tryz.prog 9 (RM Tryz.prog 9) b n (datM l)) (h:expF l (s.size+1) s.data.toList []=some r) :
  Calls Tryz.prog 81 #[.pointer (some ⟨g,0,none⟩),.string s] w fun e w'=>e=.returned (.string ⟨(r.take 4000).toArray⟩)∧Below w.heap.size w w':=by
 have hu:Tryz.prog.underlying 108=some (.map 9 9):=Tryz.underlying108
 have hbel0:=Below.refl w.heap.size w
 go_enter Tryz.func81,Tryz.ntmps81
 go_wp2
 go_loopw [1] (fun u1 wr=>∃ (sb:ByteArray) (out:List UInt8) (k:Nat),u1=.string sb∧sb.size<4294967281∧Lib.IsBuilder 157 5 w.heap.size w.heap.size (Lib.byteCells out) wr∧Below w.heap.size w wr∧w.heap.size≤wr.heap.size∧expF l k sb.data.toList out=some r)
  (fun u1 _=>(strV u1).size)
 case atStart =>
  refine ⟨s,[],s.size+1,rfl,hs,?_,?_,?_,h⟩
  ·exact qqk (P:=Tryz.prog)
  ·exact q7b _ _
  ·exact (q7b _ _).size
 case round =>
  obtain ⟨sb,out,k,rfl,hsb,hB,hbel,hsz,hexp⟩:=hrel
  cases k with
  |zero=>cases hexp
  |succ k =>
  have hmw:wr.cell? ⟨0,0,none⟩=some (.int .i64 m):=by rw [hbel.cell (q8w hm)];exact hm
  have hgw:wr.cell? ⟨g,6,none⟩=some (.map (some b)):=by rw [hbel.cell (q8w hg)];exact hg
  have how:wr.ownsMap Tryz.prog 9 (RM Tryz.prog 9) b n (datM l):=qvt hown (hbel.block b hown.lt)
  rw [expF] at hexp
  rcases e1:Lib.cut sb.data.toList [36,123] with ⟨a1,r1,k1⟩
  have q1:=q9k sb.data.toList [36,123]
  have q2:=q9j sb.data.toList [36,123]
  rw [e1] at hexp q1 q2
  simp only at hexp q1 q2
  rcases e2:Lib.cut r1 [125] with ⟨a2,r2,k2⟩
  have q3:=q9k r1 [125]
  have q4:=q9j r1 [125]
  rw [e2] at hexp q3 q4
  simp only at hexp q3 q4
  have hsl:sb.data.toList.length=sb.size:=by rw [Array.length_toList];rfl
  rw [hsl] at q1 q2
  have hr1:(⟨r1.toArray⟩:ByteArray).size<4294967281:=by show r1.toArray.size<_;rw [List.size_toArray];omega
  have hm1:∀ n,(wr.drewN n).cell? ⟨0,0,none⟩=some (.int .i64 m):=fun n=>(q8v wr n _).trans hmw
  have how2:∀ n1,(wr.drewN n1).ownsMap Tryz.prog 9 (RM Tryz.prog 9) b n (datM l):=fun n1=>qvt how rfl
  have hB2:∀ n1,Lib.IsBuilder 157 5 w.heap.size w.heap.size (Lib.byteCells out) (wr.drewN n1):=fun n1=>qql hB n1
  have hsz2:∀ n1,w.heap.size≤(wr.drewN n1).heap.size:=fun _=>hsz
  have hg2:∀ n1,(wr.drewN n1).cell? ⟨g,6,none⟩=some (.map (some b)):=fun _=>hgw
  have hb2:∀ n1,Below w.heap.size w (wr.drewN n1):=fun n1=>q7d hbel n1
  have hbl0:(Lib.byteCells out).length=out.length:=by simp [Lib.byteCells]
  have e1':Lib.cut sb.data.toList (⟨#[36,123]⟩:ByteArray).data.toList=(a1,r1,k1):=e1
  have e2':Lib.cut (⟨r1.toArray⟩:ByteArray).data.toList (⟨#[125]⟩:ByteArray).data.toList=(a2,r2,k2):=e2
  by_cases hgo:k1=true∧k2=true
  ·obtain ⟨rfl,rfl⟩:=hgo
   rw [if_neg (by simp)] at hexp
   split at hexp
   case isFalse=>cases hexp
   rename_i hlen
   have hlen':(Lib.byteCells out).length+(⟨a1.toArray⟩++⟨(getM l a2).toArray⟩:ByteArray).size≤140737488355328:=by
    rw [hbl0,ByteArray.size_append]
    show out.length+(a1.toArray.size+(getM l a2).toArray.size)≤_
    rw [List.size_toArray,List.size_toArray]
    exact hlen
   go_wp2_with (first
    |(go_at_call 105;refine (q9h _ _ m _ (by first|with_reducible exact hsb|with_reducible exact hr1) (by first|with_reducible exact hmw|with_reducible exact hm1 _)).mono ?_;rintro e w2 ⟨rfl,n1,rfl⟩;simp only [e1',e2'])
    |(at_lookup;refine q1lw _ rfl _ _ 108 rfl 9 hu Tryz.underlying9 (Tryz.zeroValue9 _) b n l rfl (how2 _) ⟨a2.toArray⟩ rfl (by show a2.toArray.size≤_;rw [List.size_toArray];unfold maxLen;omega) ?_)
    |(go_at_call 106;refine (q1m6 w.heap.size w.heap.size (Lib.byteCells out) _ _ (hB2 _) hlen' (hsz2 _)).mono ?_;rintro e w4 ⟨rfl,hBA,hbl⟩)
    |go_in)
   go_roundw
   case rel=>exact ⟨⟨r2.toArray⟩,out++(a1++getM l a2),k,rfl,by show r2.toArray.size<_;rw [List.size_toArray];omega,by rw [←q80];exact .inr hBA,(hb2 _).trans hbl,Nat.le_trans hsz hbl.size,hexp⟩
   case measure =>
    have z1:=q2 trivial
    have z2:=q4 trivial
    show r2.toArray.size<sb.size
    rw [List.size_toArray]
    simp only [List.length_cons,List.length_nil] at z1 z2
    omega
  ·have hstop:k1=false∨k2=false:=by
    cases k1 <;> cases k2 <;> simp at hgo ⊢
   rw [if_pos hstop] at hexp
   split at hexp
   case isFalse=>cases hexp
   rename_i hlen
   injection hexp with hexp
   have hlen':(Lib.byteCells out).length+sb.size≤140737488355328:=by rw [hbl0,←hsl];exact hlen
   have hap:Lib.byteCells out++Lib.strCells sb=Lib.byteCells (out++sb.data.toList):=by
    show Lib.byteCells out++Lib.byteCells sb.data.toList=_
    simp [Lib.byteCells]
   have hfin:(⟨r.toArray⟩:ByteArray).extract 0 (min (r.length:Int) 4000).toNat=⟨(r.take 4000).toArray⟩:=q1kj r
   rcases hstop with rfl|rfl
   ·go_wp2_with (first
     |(go_at_call 105;refine (q9h _ _ m _ (by first|with_reducible exact hsb|with_reducible exact hr1) (by first|with_reducible exact hmw|with_reducible exact hm1 _)).mono ?_;rintro e w2 ⟨rfl,n1,rfl⟩;simp only [e1',e2'])
     |(go_at_call 106;refine (q1m6 w.heap.size w.heap.size (Lib.byteCells out) _ _ (hB2 _) hlen' (hsz2 _)).mono ?_;rintro e w4 ⟨rfl,hBA,hbl⟩;rw [hap] at hBA;have hsz4:=Nat.le_trans hsz hbl.size;have hw4:=(hb2 _).trans hbl)
     |(go_at_call 107;refine (q7t w.heap.size w.heap.size (out++sb.data.toList) _ (.inr hBA) hsz4).mono ?_;rintro e w5 ⟨rfl,hbl5⟩)
     |go_in)
    all_goals (go_ret;exact ⟨by rw [←hfin];rfl,hw4.trans hbl5⟩)
   ·go_wp2_with (first
     |(go_at_call 105;refine (q9h _ _ m _ (by first|with_reducible exact hsb|with_reducible exact hr1) (by first|with_reducible exact hmw|with_reducible exact hm1 _)).mono ?_;rintro e w2 ⟨rfl,n1,rfl⟩;simp only [e1',e2'])
     |(go_at_call 106;refine (q1m6 w.heap.size w.heap.size (Lib.byteCells out) _ _ (hB2 _) hlen' (hsz2 _)).mono ?_;rintro e w4 ⟨rfl,hBA,hbl⟩;rw [hap] at hBA;have hsz4:=Nat.le_trans hsz hbl.size;have hw4:=(hb2 _).trans hbl)
     |(go_at_call 107;refine (q7t w.heap.size w.heap.size (out++sb.data.toList) _ (.inr hBA) hsz4).mono ?_;rintro e w5 ⟨rfl,hbl5⟩)
     |go_in)
    all_goals (go_ret;exact ⟨by rw [←hfin];rfl,hw4.trans hbl5⟩)
end Go.Proofs.YtokahibbkdbndaaGreatDoor
namespace Go.Proofs.YtokahibbkdbndaaGreatDoor
open Go.RowKit
theorem bel_of {w w':World} (h:Below w.heap.size w w'):Bel w w':=⟨h.os,h.tape,h.output,h.size,h.block⟩
theorem gw_ml {w:World} (h:GW w):∃ m,w.cell? ⟨0,0,none⟩=some (.int .i64 m):=by unfold GW at h;exact h.1
theorem gw_pow {w : World} (h : GW w) : Lib.TabIs Tryz.prog w "internal/strconv.uint64pow10" .u64 Lib.pow10Tab := by
 unfold GW at h
 obtain ⟨_,⟨t,fz,h⟩,_⟩:=h
 have hn : Tryz.prog.globalNamed "internal/strconv.uint64pow10" = some 1 := by kernel_rfl
 unfold Lib.TabIs World.var?
 rw [hn]
 simp only [Option.bind_some,h]
theorem q8s (l:List UInt8):decide (0≤Lib.indexAny l crlf0)=l.any fun b=>crlf0.contains b:=by
 induction l with
 |nil=>rfl
 |cons b l ih =>
  rw [List.any_cons,Lib.indexAny,←ih]
  cases crlf0.contains b with
  |true=>rfl
  |false =>
   have:=Lib.indexAny_ge crlf0 l
   by_cases h:Lib.indexAny l crlf0=-1
   ·rw [h];rfl
   ·have h2:(Lib.indexAny l crlf0==-1)=false:=by simpa using h
    simp only [h2,Bool.false_eq_true,if_false,Bool.false_or]
    rw [Bool.eq_iff_iff]
    simp
    omega
set_option maxRecDepth 100000 in
theorem q8q (s:ByteArray) (w:World) (hs:s.size<4294967281):Calls Tryz.prog 164 #[.string s,.string ⟨#[13,10,0]⟩] w fun e w'=>e=.returned (.bool (s.data.toList.any fun b=>crlf0.contains b))∧Below w.heap.size w w':=by
 have hc:Calls Tryz.prog 171 #[.string s,.string ⟨#[13,10,0]⟩] w fun e w'=>e=.returned (.int .i64 (Lib.indexAny s.data.toList crlf0))∧Below w.heap.size w w':=by
  by_cases h8:s.size≤8
  ·exact qpp s w h8
  ·exact qpo s ⟨#[13,10,0]⟩ w (by decide) (by omega) hs (by decide) (fun j b hb=>by
    have:b∈([13,10,0]:List UInt8):=List.mem_of_getElem? hb
    simp at this
    rcases this with rfl|rfl|rfl <;> decide)
 go_enter Tryz.func164,Tryz.ntmps164
 go_wp2_with (go_at_call 171;refine hc.mono ?_;rintro e w' ⟨rfl,hb⟩)
 go_ret
 refine ⟨?_,hb⟩
 rw [←q8s s.data.toList]
 rfl
theorem q1aq {w w':World} {Z:ZMap} (hG:GW w) (hb:Bel w w') (hZ:∀ b o u,Z b o=some u→w.cell? ⟨b,o,none⟩=some u):Rel (wb w) Z (fun _ _=>none) (fun _=>none) (fun i=>([]:List B)[i]?) (fun _=>false) w' :=
 ⟨wb_bel.2 hb,⟨hG,GB.no⟩,fun b o u h=>by rw [hb.cell _ (q8w (hZ _ _ _ h))];exact hZ _ _ _ h,(fun _ _ _ h=>by cases h),by simp,by simp,by simp,by simp,by simp⟩
theorem args1 {cargs:Array Value} {a:V} {Z Y:ZMap} (hs:cargs.size=1) (hr:∀ (i:Nat) u x,cargs[i]?=some u→[a][i]?=some x→Rep Z Y noM u x):∃ u,cargs=#[u]∧Rep Z Y noM u a:=by
 refine ⟨cargs[0]'(by omega),?_,hr 0 _ _ (Array.getElem?_eq_getElem _) rfl⟩
 apply Array.ext (by simpa using hs)
 intro i h1 h2
 have:i=0:=by omega
 subst this
 rfl
theorem args2 {cargs:Array Value} {a b:V} {Z Y:ZMap} (hs:cargs.size=2) (hr:∀ (i:Nat) u x,cargs[i]?=some u→[a,b][i]?=some x→Rep Z Y noM u x):∃ u v,cargs=#[u,v]∧Rep Z Y noM u a∧Rep Z Y noM v b:=by
 refine ⟨cargs[0]'(by omega),cargs[1]'(by omega),?_,hr 0 _ _ (Array.getElem?_eq_getElem _) rfl,hr 1 _ _ (Array.getElem?_eq_getElem _) rfl⟩
 apply Array.ext (by simpa using hs)
 intro i h1 h2
 match i,h1 with
 |0,_=>rfl
 |1,_=>rfl
 |i+2,h1=>omega
theorem q8h {f:FuncId} {args:List V} {x:V} (ho:okRes x=true) (h:∀ (w:World) (Z Y:ZMap) (cargs:Array Value),GW w→cargs.size=args.length→(∀ (i:Nat) u x,cargs[i]?=some u→args[i]?=some x→Rep Z Y noM u x) →
  Calls Tryz.prog f cargs w fun e w'=>∃ cv,e=.returned cv∧Bel w w'∧∀ (Z:ZMap) Y,Rep Z Y noM cv x):CallOk Tryz.prog f args (x,[]):=by
 refine ⟨ho,(fun b hb=>by cases hb),fun w Z Y cargs hG hZ hY hs hr=>(h w Z Y cargs hG hs hr).mono fun e w'=>?_⟩
 rintro ⟨cv,rfl,hb,r⟩
 exact ⟨cv,Z,fun _=>none,rfl,ZUp.refl,q1aq hG hb hZ,r _ _,fun i h=>absurd rfl h⟩
theorem q99 (s sub:ByteArray) (m:Int) (w:World) (hs:s.size<4294967281) (hm:w.cell? ⟨0,0,none⟩=some (.int .i64 m)) :
  Calls Tryz.prog 143 #[.string s,.string sub] w fun e w'=>e=.returned (.bool (Lib.contains s.data.toList sub.data.toList))∧w'=w:=Any.strings_Contains lays144 s sub m w hs hm
theorem qqz (n : Int) (h0 : -9223372036854775808 ≤ n) (h1 : n ≤ 9223372036854775807) (w : World) (ht : Lib.TabIs Tryz.prog w "internal/strconv.uint64pow10" .u64 Lib.pow10Tab) :
  Calls Tryz.prog 134 #[.int .i64 n] w fun e w'=>e=.returned (.string ⟨(Lib.itoa n).toArray⟩)∧Bel w w':=(Any.strconv_Itoa laysM171 n h0 h1 w ht).mono fun e w'=>by
 rintro ⟨rfl,k,os,rfl⟩
 refine ⟨rfl,rfl,rfl,rfl,?_,fun k hk=>?_⟩
 ·show w.heap.size≤(w.heap++os).size
  rw [Array.size_append];omega
 ·show (w.heap++os)[k]?=_
  rw [Array.getElem?_append_left hk]
theorem X0c_ok:∀ f args r,X0c f args=some r→CallOk Tryz.prog f args r:=by
 intro f args r h
 unfold X0c at h
 cases hf:clones.contains f with
 |true=>simp [clones] at hf
 |false =>
 rw [hf,cond_false] at h
 cases h1:f==143 with
 |true =>
  rw [h1,cond_true] at h
  have hf':f=143:=by simpa using h1
  subst hf'
  split at h
  case h_2=>cases h
  rename_i s t
  cases hp:contP s t with
  |none=>rw [hp] at h;cases h
  |some b =>
  rw [hp] at h
  injection h with h
  subst h
  unfold contP at hp
  split at hp
  case isFalse=>cases hp
  rename_i hsz
  injection hp with hp
  subst hp
  refine q8h rfl fun w Z Y cargs hG hs hr=>?_
  obtain ⟨u,v,rfl,r1,r2⟩:=args2 hs hr
  rw [q1b0 r1,q1b0 r2]
  obtain ⟨m,hm⟩:=gw_ml hG
  exact (q99 s t m w hsz hm).mono fun e w' h=>⟨_,h.1,by rw [h.2];exact Bel.refl _,fun _ _=>.c (.bool _)⟩
 |false =>
 rw [h1,cond_false] at h
 cases h2:f==105 with
 |true =>
  rw [h2,cond_true] at h
  have hf':f=105:=by simpa using h2
  subst hf'
  split at h
  case h_2=>cases h
  rename_i s t
  cases hp:cutP s t with
  |none=>rw [hp] at h;cases h
  |some b =>
  rw [hp] at h
  injection h with h
  subst h
  unfold cutP at hp
  split at hp
  case isFalse=>cases hp
  rename_i hsz
  injection hp with hp
  subst hp
  refine q8h rfl fun w Z Y cargs hG hs hr=>?_
  obtain ⟨u,v,rfl,r1,r2⟩:=args2 hs hr
  rw [q1b0 r1,q1b0 r2]
  obtain ⟨m,hm⟩:=gw_ml hG
  refine (q9h s t m w hsz hm).mono fun e w' h=>?_
  obtain ⟨he,n,rfl⟩:=h
  refine ⟨_,he,(Bel.refl w).drewN n,fun _ _=>.tup _ _ rfl ?_⟩
  intro i u x hu hx
  match i with
  |0=>simp at hu hx;subst hu;subst hx;exact .c (.str _)
  |1=>simp at hu hx;subst hu;subst hx;exact .c (.str _)
  |2=>simp at hu hx;subst hu;subst hx;exact .c (.bool _)
  |i+3=>simp at hu
 |false =>
 rw [h2,cond_false] at h
 cases h3:f==112 with
 |true =>
  rw [h3,cond_true] at h
  have hf':f=112:=by simpa using h3
  subst hf'
  split at h
  case h_2=>cases h
  rename_i s c
  injection h with h
  subst h
  refine q8h rfl fun w Z Y cargs hG hs hr=>?_
  obtain ⟨u,v,rfl,r1,r2⟩:=args2 hs hr
  rw [q1b0 r1,q1az r2]
  exact (qr3 s c w).mono fun e w' h=>⟨_,h.1,by rw [h.2];exact Bel.refl _,fun _ _=>.c (.int _ _)⟩
 |false =>
 rw [h3,cond_false] at h
 cases h4:f==164 with
 |true =>
  rw [h4,cond_true] at h
  have hf':f=164:=by simpa using h4
  subst hf'
  split at h
  case h_2=>cases h
  rename_i s t
  cases hp:canyP s t with
  |none=>rw [hp] at h;cases h
  |some b =>
  rw [hp] at h
  injection h with h
  subst h
  unfold canyP at hp
  split at hp
  case isFalse=>cases hp
  rename_i hsz
  injection hp with hp
  subst hp
  have ht:t=⟨#[13,10,0]⟩:=by
   apply ByteArray.ext
   exact Array.toList_inj.1 hsz.2
  subst ht
  refine q8h rfl fun w Z Y cargs hG hs hr=>?_
  obtain ⟨u,v,rfl,r1,r2⟩:=args2 hs hr
  rw [q1b0 r1,q1b0 r2]
  exact (q8q s w hsz.1).mono fun e w' h=>⟨_,h.1,bel_of h.2,fun _ _=>.c (.bool _)⟩
 |false =>
 rw [h4,cond_false] at h
 cases h5:f==134 with
 |true =>
  rw [h5,cond_true] at h
  have hf':f=134:=by simpa using h5
  subst hf'
  split at h
  case h_2=>cases h
  rename_i n
  cases hp:itoaP n with
  |none=>rw [hp] at h;cases h
  |some b =>
  rw [hp] at h
  injection h with h
  subst h
  unfold itoaP at hp
  split at hp
  case isFalse=>cases hp
  rename_i hsz
  injection hp with hp
  subst hp
  refine q8h rfl fun w Z Y cargs hG hs hr=>?_
  obtain ⟨u,rfl,r1⟩:=args1 hs hr
  rw [q1az r1]
  exact (qqz n hsz.1 hsz.2 w (gw_pow hG)).mono fun e w' h=>⟨_,h.1,h.2,fun _ _=>.c (.str _)⟩
 |false =>
 rw [h5,cond_false] at h
 cases h
theorem argsD {cargs:Array Value} (hs:cargs.size=2):cargs=#[cargs.getD 0 undef,cargs.getD 1 undef]:=by
 apply Array.ext (by simpa using hs)
 intro i h1 h2
 match i,h1 with
 |0,h1=>simp [Array.getD,h1]
 |1,h1=>simp [Array.getD,h1]
 |i+2,h1=>omega
theorem qj5 (st:St) (vs:List V) (s1:St) (h:expX.run (List V×St) st some=some (vs,s1)):RuleOk Tryz.prog 81 2 st vs s1:=by
 unfold expX at h
 simp only at h
 split at h
 case h_2=>cases h
 rename_i id a e0 e1
 split at h
 case h_2=>cases h
 rename_i cs hcs
 split at h
 case h_2=>cases h
 rename_i j hj
 split at h
 case h_2=>cases h
 rename_i l hl
 cases hp:expP l a with
 |none=>rw [hp] at h;cases h
 |some r =>
 rw [hp] at h
 injection h with h
 injection h with h1 h2
 subst h1 h2
 intro G w0 w Z Y m cargs R hm hG hs hr
 have r0:=hr 0
 have r1:=hr 1
 rw [e0] at r0
 rw [e1] at r1
 rw [argsD hs]
 rw [q1b0 r1]
 generalize cargs.getD 0 undef=u0 at r0
 cases r0 with
 |ptr _ _ g hmi =>
 obtain ⟨g',hm',hb⟩:=R.box id cs hcs
 rw [hmi] at hm'
 injection hm' with hm';injection hm' with hm';injection hm' with hm';injection hm' with hm'
 subst hm'
 obtain ⟨t,ws,hw,hrep⟩:=hb.ex
 cases hrep with
 |agg _ _ hlen h1 hcell =>
 have h6:cs[6]?=some (.mp j):=by
  rw [List.getD_eq_getElem?_getD] at hj
  cases h6:cs[6]? with
  |none=>rw [h6] at hj;cases hj
  |some v=>rw [h6] at hj;exact congrArg some hj
 obtain ⟨hlt,hel⟩:=List.getElem?_eq_some_iff.1 h6
 have hw6:ws[6]?=some (ws[6]'(by omega)):=Array.getElem?_eq_getElem (by omega)
 have r6:=hcell 6 _ _ hw6 h6
 generalize ws[6]'(by omega)=u6 at hw6 r6
 cases r6 with
 |mp _ b hmj =>
 obtain ⟨b',hm',hat⟩:=R.mp j l hl
 rw [hmj] at hm'
 injection hm' with hm';injection hm' with hm';injection hm' with hm'
 subst hm'
 have hown:=hat.owns (P:=Tryz.prog) (k:=9) Tryz.underlying9
 have hcl:w.cell? ⟨g,6,none⟩=some (.map (some b)):=by simp only [World.cell?,hw];exact hw6
 obtain ⟨ml,hml⟩:=gw_ml (BelA.gw R.bel R.gw)
 unfold expP at hp
 split at hp
 case isFalse=>cases hp
 rename_i hsz
 cases hq:expF l (a.size+1) a.data.toList [] with
 |none=>rw [hq] at hp;cases hp
 |some o =>
 rw [hq] at hp
 injection hp with hp
 subst hp
 refine (qj6 g b l.length ml l a w o hsz hml hcl hown hq).mono fun e w'=>?_
 rintro ⟨rfl,hb⟩
 exact ⟨_,Z,m,rfl,ZUp.refl,R.later (bel_of hb),.c (.str _),hG,hm⟩
theorem qnl {w w':World} {g:Nat} (h:w.grownBy w' (some g)) (hg:g<w.heap.size):∃ w1,Wr g w w1∧Bel w1 w'∧w1.heap[g]?=w'.heap[g]?:=by
 have hg':g<w'.heap.size:=Nat.lt_of_lt_of_le hg h.size
 refine ⟨{ w' with heap:=w.heap.setIfInBounds g w'.heap[g] },⟨h.os,h.tape,h.output,by simp,fun k hk=>?_⟩,⟨rfl,rfl,rfl,by simpa using h.size,fun k hk=>?_⟩,?_⟩
 ·show (w.heap.setIfInBounds g w'.heap[g])[k]?=_
  rw [Array.getElem?_setIfInBounds_ne (Ne.symm hk)]
 ·show w'.heap[k]?=(w.heap.setIfInBounds g w'.heap[g])[k]?
  have hk:k<w.heap.size:=by simpa using hk
  by_cases e:k=g
  ·subst e
   rw [Array.getElem?_setIfInBounds_self_of_lt hg,Array.getElem?_eq_getElem hg']
  ·rw [Array.getElem?_setIfInBounds_ne (Ne.symm e)]
   exact h.block k hk (fun e2=>e (by injection e2))
 ·show (w.heap.setIfInBounds g w'.heap[g])[g]?=_
  rw [Array.getElem?_setIfInBounds_self_of_lt hg,Array.getElem?_eq_getElem hg']
theorem qa4 (st:St) (vs:List V) (s1:St) (h:(delX 133).run (List V×St) st some=some (vs,s1)):RuleOk Tryz.prog 132 2 st vs s1:=by
 unfold delX at h
 simp only at h
 split at h
 case h_2=>cases h
 rename_i j f e0 e1
 cases hf:f==133 with
 |false=>rw [hf] at h;cases h
 |true =>
 rw [hf,cond_true] at h
 have hf':f=133:=by simpa using hf
 subst hf'
 split at h
 case h_2=>cases h
 rename_i l hl
 cases hp:delP l with
 |none=>rw [hp] at h;cases h
 |some l' =>
 rw [hp] at h
 injection h with h
 injection h with h1 h2
 subst h1 h2
 unfold delP at hp
 split at hp
 case isFalse=>cases hp
 rename_i hall
 injection hp with hp
 subst hp
 intro G w0 w Z Y m cargs R hm hG hs hr
 have r0:=hr 0
 have r1:=hr 1
 rw [e0] at r0
 rw [e1] at r1
 rw [argsD hs]
 generalize cargs.getD 0 undef=u0 at r0
 generalize cargs.getD 1 undef=u1 at r1
 cases r0 with
 |mp _ b hmj =>
 have hu1:u1=.func (.func 133) #[] #[]:=by
  cases r1 with
  |fn _ cs _ hlen _ _ =>
   have:cs=#[]:=Array.size_eq_zero_iff.1 (by simpa using hlen)
   rw [this]
 subst hu1
 obtain ⟨b',hm',hat⟩:=R.mp j l hl
 rw [hmj] at hm'
 injection hm' with hm';injection hm' with hm';injection hm' with hm'
 subst hm'
 have hown:=hat.owns (P:=Tryz.prog) (k:=9) Tryz.underlying9
 refine (qa5 b l.length l w hown (fun p hp=>of_decide_eq_true (List.all_eq_true.1 hall p hp))).mono fun e w'=>?_
 rintro ⟨rfl,ho,hg⟩
 obtain ⟨l2,hl2,hat2,_⟩:=MapAt.of_owns (base:=w0.own) hat.base Tryz.underlying9 ho
 have:=q9s hl2
 subst this
 obtain ⟨w1,hw1,hb1,he1⟩:=qnl hg hown.lt
 have hat1:MapAt w0.own w1 b (l.filter fun p=>!digP p.1):=by
  obtain ⟨es,clock,q1,q2⟩:=hat2.ex
  exact ⟨hat2.base,es,clock,by rw [he1];exact q1,q2⟩
 have R1:=(R.write_map hl hmj hw1 hat1).later hb1
 exact ⟨_,Z,m,rfl,ZUp.refl,R1,.tup _ _ rfl (fun i u x hu _=>by simp at hu),hG,hm⟩
theorem X0_ok:XOk Tryz.prog X0:=by
 refine ⟨X0c_ok,fun f R st vs s1 hf0 h=>?_⟩
 have hf:X0h f=some R:=hf0
 clear hf0
 unfold X0h at hf
 cases h1:f==81 with
 |true =>
  rw [h1,cond_true] at hf
  injection hf with hR
  have hf':f=81:=by simpa using h1
  subst hR
  subst hf'
  exact qj5 st vs s1 h
 |false =>
 rw [h1,cond_false] at hf
 cases h2:f==132 with
 |true =>
  rw [h2,cond_true] at hf
  injection hf with hR
  have hf':f=132:=by simpa using h2
  subst hR
  subst hf'
  exact qa4 st vs s1 h
 |false =>
 rw [h2,cond_false] at hf
 cases hf
end Go.Proofs.YtokahibbkdbndaaGreatDoor
namespace Go.Proofs.YtokahibbkdbndaaGreatDoor
open Go.ChangeShapes Go.WideShapes Go.ChangeAt Go.ChangeMaps Go.RowKit Go.Deep
theorem moR_ok:Tryz.prog.follows .mixedOrders=true:=by kernel_rfl
theorem qrq {f:FuncId} {args:List V} {cargs:Array Value} {W:World} (hC:Call Tryz.prog lv X0 f args=some (.c (.bool true),[])) (hG:GW W) (hsz:cargs.size=args.length)
  (hrep:∀ (i:Nat) u x,cargs[i]?=some u→args[i]?=some x→Rep (Zw W) (fun _ _=>none) noM u x):Calls Tryz.prog f cargs W fun e W'=>e=.returned (.bool true)∧Bel W W':=by
 have ok:=qe Tryz.prog lv X0 moR_ok X0_ok hC
 refine (ok.2.2 W (Zw W) (fun _ _=>none) cargs hG (fun _ _ _ h=>h) (fun _ _ _ h=>by cases h) hsz hrep).mono fun e W'=>?_
 rintro ⟨cv,Z',m',rfl,_,R,r,_⟩
 cases r with
 |c r =>
 cases r
 exact ⟨rfl,wb_bel.1 R.bel⟩
def RepA (W:World):List Value→List V→Prop
 |[],[]=>True
 |u::us,x::xs=>Rep (Zw W) (fun _ _=>none) noM u x∧RepA W us xs
 |_,_=>False
theorem RepA.get {W:World}:∀ {us:List Value} {xs:List V},RepA W us xs→us.length=xs.length∧∀ (i:Nat) u x,us[i]?=some u→xs[i]?=some x→Rep (Zw W) (fun _ _=>none) noM u x
 |[],[],_=>⟨rfl,fun i u x h _=>by simp at h⟩
 |u::us,x::xs,h=>by
  obtain ⟨h1,h2⟩:=RepA.get h.2
  refine ⟨by simp [h1],fun i u' x' hu hx=>?_⟩
  cases i with
  |zero=>simp at hu hx;subst hu hx;exact h.1
  |succ i=>simp at hu hx;exact h2 i u' x' hu hx
 |[],_::_,h=>h.elim
 |_::_,[],h=>h.elim
def laidL : List (String × DataW Unit) := [("math/bits.deBruijn32tab", Rows.laid_math_bits_deBruijn32tab), ("math/bits.deBruijn64tab", Rows.laid_math_bits_deBruijn64tab), ("internal/strconv.uint64pow10", Rows.laid_internal_strconv_uint64pow10)]
theorem gw_row {W:World} (hs:W.ShapedOpen Tryz.prog) (hl:laidMetH Tryz.prog laidL W):GW W:=by
 have hl':laidMet Tryz.prog laidL W:=hl
 obtain ⟨g,t,cs,fuel,p,h1,h2,h3,h4⟩:=Lib.laidMet.reads hl' (.tail _ (.tail _ (.head _)))
 have hg : Tryz.prog.globalNamed "internal/strconv.uint64pow10" = some 1 := by kernel_rfl
 have ht:(Tryz.prog.globals[1]?).map (·.type)=some 213:=by kernel_rfl
 obtain rfl:=Option.some.inj (hg.symm.trans h1)
 obtain rfl:=Option.some.inj (ht.symm.trans h2)
 have hd:(Rows.laid_internal_strconv_uint64pow10:DataW Unit)=Lib.tabData .u64 Lib.pow10Tab:=by rfl
 rw [hd] at h4
 have hc:=Lib.cells_of_tab (n:=20) Tryz.underlying213 Tryz.underlying199 (by kernel_rfl) (by kernel_rfl) h4
 refine ⟨laysM144.s1_3 W hs,?_,trivial⟩
 simp only [World.var?,hg,Option.bind_some] at h3
 split at h3
 ·rename_i cs' t' fz hh
  injection h3 with h3
  subst h3
  refine ⟨t',fz,?_⟩
  rw [hh]
  congr 2
  apply Array.ext'
  rw [hc]
 ·cases h3
noncomputable def laidWorld (os:Os) (args:Array Value):World :=
 let w0:=World.holding Tryz.prog os ⟨#[],args,[]⟩
 let put (h:Array Obj) (g:Nat) (cs:Array Value):Array Obj:=h.modify g fun
  |.cells _ t frozen=>.cells cs t frozen
  |o=>o
 let ints (d:DataW Unit):Array Value:=match d with
  |.agg ds=>(ds.map fun x=>match x with|.lit (.int k z)=>Value.int k z|_=>.nilFunc).toArray
  |_=>#[]
 let h1:=put w0.heap 2 (ints Rows.laid_math_bits_deBruijn32tab)
 let h2:=put h1 3 (ints Rows.laid_math_bits_deBruijn64tab)
 let h3:=put h2 1 (ints Rows.laid_internal_strconv_uint64pow10)
 { w0 with heap:=h3 }
theorem qrj (os:Os) (args:Array Value):laidMetH Tryz.prog laidL ((laidWorld os args).forCall (fun _ _=>0) ⟨#[],args,[]⟩).memory:=by
 have h:LaidIn Tryz.prog ((laidWorld os args).forCall (fun _ _=>0) ⟨#[],args,[]⟩).memory laidL [2,3,1] :=
  LaidIn.of_run [2,3,1] 8 (by kernel_rfl) (by kernel_rfl) (by kernel_rfl) (by kernel_rfl)
 exact h.met
end Go.Proofs.YtokahibbkdbndaaGreatDoor
