/- (*evaluate.run).expand: a text with the values of variables put in. -/
import Derived.Test.YtfakibajjibjjaaGreatDoorZ23
import Derived.Maps.OwnOps
import Derived.Test.YtfakibajjibjjaaGreatDoorRC
import Derived.Test.YtfakibajjibjjaaGreatDoorGB
import Derived.WalkKit
import Derived.RangeFuncRecord
import Derived.RangeFuncSeq
import Derived.TacticsIn
import Derived.BigFrameIn
import Derived.LoopNIn
import Derived.Shelf.Bytes.SlIndexWhole
import Derived.RangeFuncLeaves
namespace Go.Proofs.YtfakibajjibjjaaGreatDoor
open Go.RowKit Go.Maps
theorem qb0 (s sep:ByteArray) (m:Int) (w:World) (hs:s.size<4294967281) (hm:w.cell? ⟨0,0,none⟩=some (.int .i64 m)) :
  Calls Tryz.prog 170 #[.string s,.string sep] w fun e w'=>e=.returned (.tuple #[.string ⟨(Lib.cut s.data.toList sep.data.toList).1.toArray⟩,.string ⟨(Lib.cut s.data.toList sep.data.toList).2.1.toArray⟩,.bool (Lib.cut s.data.toList sep.data.toList).2.2])∧∃ n,w'=w.drewN n:=Any.strings_Cut lays145 s sep m w hs hm
theorem q15h (B b:Nat) (bs:List Value) (s:ByteArray) (w:World) (h:Lib.IsBuilder 188 5 B b bs w) (hlen:bs.length+s.size≤140737488355328) (hBw:B≤w.heap.size) :
  Calls Tryz.prog 106 #[.pointer (some ⟨b,0,none⟩),.string s] w fun e w'=>e=.returned (.tuple #[.int .i64 s.size,.nilIface])∧(Lib.BuilderAt 188 5 B b (.pointer (some ⟨b,0,none⟩)) (bs++Lib.strCells s) w'∧Below B w w'):=Any.Builder_WriteString lays166 qd B b bs s w h hlen hBw
theorem q7g (B b:Nat) (l:List UInt8) (w:World) (h:Lib.IsBuilder 188 5 B b (Lib.byteCells l) w) (hBw:B≤w.heap.size) :
  Calls Tryz.prog 107 #[.pointer (some ⟨b,0,none⟩)] w fun e w'=>e=.returned (.string ⟨l.toArray⟩)∧Below B w w':=Any.Builder_String_any lays169 qe B b l w h hBw
theorem q39 (k:List UInt8):∀ l:List (ByteArray×ByteArray),(datM l).atKey (.string k) (.lit (.string []))=.lit (.string (getM l k)):=by
 intro l
 unfold datM DataW.atKey getM
 simp only
 induction l with
 |nil=>rfl
 |cons p l ih =>
  rw [List.map_cons,List.find?_cons,List.find?_cons]
  have:(litM p).1.sameKey (.string k)=(p.1.data.toList==k):=rfl
  simp only [this]
  cases p.1.data.toList==k with
  |true=>rfl
  |false=>exact ih
theorem q15b {P:Program} (w:World) {ops:Array Oper} {rest:List Oper} {o:Oper} {a:Act} {Q:Exit→Act→World→Prop}
  (hg:o.guard=none) (m x:Operand) (t:TypeId) (hop:o.op=Op.lookup t m x false) (k:TypeId) (ht:P.underlying t=some (.map k k)) (he:P.underlying k=some .string) (hz:(zeroValue k).run P w=.ok (.string ⟨#[]⟩) w) (b n:Nat) (l:List (ByteArray×ByteArray))
  (hm:a.eval m=.map (some b)) (hown:w.ownsMap P k (RM P k) b n (datM l)) (key:ByteArray) (hx:a.eval x=.string key) (hks:key.size≤maxLen)
  (hK:wpList P ops Q rest (a.put o.dst (.string ⟨(getM l key.data.toList).toArray⟩)) w):wpList P ops Q (o::rest) a w:=by
 refine wpList_plain hg fun K' hK'=>?_
 obtain ⟨v,ps,hrun,hv⟩:=hown.lookup (t:=t) (e:=k) (Maps.string_keyed he) ht hz (zd:=.lit (.string [])) (zp:=[]) (plainElem_string he (s:=⟨#[]⟩) (Nat.zero_le _)) (key:=.string key) (kl:=.string key.data.toList) ((qnc he _ _).2 ⟨key,rfl,hks,rfl⟩)
 rw [q39] at hv
 have hv2:v=.string ⟨(getM l key.data.toList).toArray⟩:=by
  unfold RM plainElem at hv
  rw [he] at hv
  cases v <;> simp at hv
  rename_i s
  have e:=hv.2.1
  rw [←e,Array.toArray_toList]
 subst hv2
 unfold Oper.wp
 simp [execOp,hop,hm,hx,hrun,Result.andThen]
 exact hK' _ _ hK
theorem qu2 {P:Program} {k:TypeId} {b n:Nat} {D:DataW Unit} {w w':World} (h:w.ownsMap P k (RM P k) b n D) (e:w'.heap[b]?=w.heap[b]?):w'.ownsMap P k (RM P k) b n D:=by
 obtain ⟨es,clock,hb,r⟩:=h
 exact ⟨es,clock,by rw [e];exact hb,r⟩
theorem qb1 (s:List UInt8) (sep:List UInt8) (h:(Lib.cut s sep).2.2=true):(Lib.cut s sep).2.1.length+sep.length≤s.length:=by
 unfold Lib.cut at *
 split at h
 ·rename_i h0
  rw [if_pos h0]
  have:=Lib.index_room s sep h0
  simp only [List.length_drop]
  omega
 ·cases h
theorem qb2 (s:List UInt8) (sep:List UInt8):(Lib.cut s sep).2.1.length≤s.length∧(Lib.cut s sep).1.length≤s.length:=by
 unfold Lib.cut
 split
 ·simp;omega
 ·simp
theorem q8s (w:World) (n:Nat) (a:Addr):(w.drewN n).cell? a=w.cell? a:=rfl
theorem q7l (out a b:List UInt8):Lib.byteCells out++Lib.strCells (⟨a.toArray⟩++⟨b.toArray⟩)=Lib.byteCells (out++(a++b)):=by
 have:(⟨a.toArray⟩++⟨b.toArray⟩:ByteArray)=⟨(a++b).toArray⟩:=by
  apply ByteArray.ext
  simp
 rw [this]
 show Lib.byteCells out++Lib.byteCells (a++b)=_
 simp [Lib.byteCells]
theorem qmf {T e:TypeId} {B b:Nat} {bs:List Value} {w:World} (h:Lib.IsBuilder T e B b bs w) (n:Nat):Lib.IsBuilder T e B b bs (w.drewN n):=h
theorem qme {T e:TypeId} {w:World} {P:Program}:Lib.IsBuilder T e w.heap.size w.heap.size (Lib.byteCells []) (w.alloc (Obj.cells #[Value.pointer none,Value.slice none 0 0] T)):=by
 refine .inl ⟨Nat.le_refl _,.slice none 0 0,(MapKept.heap_alloc w _).1,World.ownsRow_nil _ _ _ _,?_⟩
 simp [Value.ownBlock]
theorem q6l {B:Nat} {a w:World} (h:Below B a w) (n:Nat):Below B a (w.drewN n):=⟨h.os,h.tape,h.output,h.size,h.block⟩
theorem q6j (w:World) (o:Obj):Below w.heap.size w (w.alloc o):=(Below.refl _ w).alloc (Nat.le_refl _) o
theorem q12z (r:List UInt8):(⟨r.toArray⟩:ByteArray).extract 0 (min (r.length:Int) 4000).toNat=⟨(r.take 4000).toArray⟩:=by
 have e:(min (r.length:Int) 4000).toNat=min r.length 4000:=by omega
 rw [e]
 apply ByteArray.ext
 rw [ByteArray.data_extract]
 simp
 omega
set_option maxHeartbeats 4000000 in
set_option maxRecDepth 100000 in
theorem qf1 (g b n:Nat) (m:Int) (l:List (ByteArray×ByteArray)) (s:ByteArray) (w:World) (r:List UInt8) (hs:s.size<4294967281) (hm:w.cell? ⟨0,0,none⟩=some (.int .i64 m)) (hg:w.cell? ⟨g,6,none⟩=some (.map (some b)))
  (hown:w.ownsMap Tryz.prog 9 (RM Tryz.prog 9) b n (datM l)) (h:expF l (s.size+1) s.data.toList []=some r) :
  Calls Tryz.prog 122 #[.pointer (some ⟨g,0,none⟩),.string s] w fun e w'=>e=.returned (.string ⟨(r.take 4000).toArray⟩)∧Below w.heap.size w w':=by
 have hu:Tryz.prog.underlying 160=some (.map 9 9):=Tryz.underlying160
 have hbel0:=Below.refl w.heap.size w
 go_enter Tryz.func122,Tryz.ntmps122
 go_wp2
 go_loopw [1] (fun u1 wr=>∃ (sb:ByteArray) (out:List UInt8) (k:Nat),u1=.string sb∧sb.size<4294967281∧Lib.IsBuilder 188 5 w.heap.size w.heap.size (Lib.byteCells out) wr∧Below w.heap.size w wr∧w.heap.size≤wr.heap.size∧expF l k sb.data.toList out=some r)
  (fun u1 _=>(strV u1).size)
 case atStart =>
  refine ⟨s,[],s.size+1,rfl,hs,?_,?_,?_,h⟩
  ·exact qme (P:=Tryz.prog)
  ·exact q6j _ _
  ·exact (q6j _ _).size
 case round =>
  obtain ⟨sb,out,k,rfl,hsb,hB,hbel,hsz,hexp⟩:=hrel
  cases k with
  |zero=>cases hexp
  |succ k =>
  have hmw:wr.cell? ⟨0,0,none⟩=some (.int .i64 m):=by rw [hbel.cell (q8u hm)];exact hm
  have hgw:wr.cell? ⟨g,6,none⟩=some (.map (some b)):=by rw [hbel.cell (q8u hg)];exact hg
  have how:wr.ownsMap Tryz.prog 9 (RM Tryz.prog 9) b n (datM l):=qu2 hown (hbel.block b hown.lt)
  rw [expF] at hexp
  rcases e1:Lib.cut sb.data.toList [36,123] with ⟨a1,r1,k1⟩
  have q1:=qb2 sb.data.toList [36,123]
  have q2:=qb1 sb.data.toList [36,123]
  rw [e1] at hexp q1 q2
  simp only at hexp q1 q2
  rcases e2:Lib.cut r1 [125] with ⟨a2,r2,k2⟩
  have q3:=qb2 r1 [125]
  have q4:=qb1 r1 [125]
  rw [e2] at hexp q3 q4
  simp only at hexp q3 q4
  have hsl:sb.data.toList.length=sb.size:=by rw [Array.length_toList];rfl
  rw [hsl] at q1 q2
  have hr1:(⟨r1.toArray⟩:ByteArray).size<4294967281:=by show r1.toArray.size<_;rw [List.size_toArray];omega
  have hm1:∀ n,(wr.drewN n).cell? ⟨0,0,none⟩=some (.int .i64 m):=fun n=>(q8s wr n _).trans hmw
  have how2:∀ n1,(wr.drewN n1).ownsMap Tryz.prog 9 (RM Tryz.prog 9) b n (datM l):=fun n1=>qu2 how rfl
  have hB2:∀ n1,Lib.IsBuilder 188 5 w.heap.size w.heap.size (Lib.byteCells out) (wr.drewN n1):=fun n1=>qmf hB n1
  have hsz2:∀ n1,w.heap.size≤(wr.drewN n1).heap.size:=fun _=>hsz
  have hg2:∀ n1,(wr.drewN n1).cell? ⟨g,6,none⟩=some (.map (some b)):=fun _=>hgw
  have hb2:∀ n1,Below w.heap.size w (wr.drewN n1):=fun n1=>q6l hbel n1
  have hbl0:(Lib.byteCells out).length=out.length:=by simp [Lib.byteCells]
  have e1':Lib.cut sb.data.toList (⟨#[36,123]⟩:ByteArray).data.toList=(a1,r1,k1):=e1
  have e2':Lib.cut (⟨r1.toArray⟩:ByteArray).data.toList (⟨#[125]⟩:ByteArray).data.toList=(a2,r2,k2):=e2
  by_cases hgo:k1=true∧k2=true
  ·obtain ⟨rfl,rfl⟩:=hgo
   rw [if_neg (by simp)] at hexp
   split at hexp
   case isFalse=>cases hexp
   rename_i hlen
   have hlen':(Lib.byteCells out).length+(⟨a1.toArray⟩++⟨(getM l a2).toArray⟩:ByteArray).size≤140737488355328:=by
    rw [hbl0,ByteArray.size_append]
    show out.length+(a1.toArray.size+(getM l a2).toArray.size)≤_
    rw [List.size_toArray,List.size_toArray]
    exact hlen
   go_wp2_with (first
    |(go_at_call 170;refine (qb0 _ _ m _ (by first|with_reducible exact hsb|with_reducible exact hr1) (by first|with_reducible exact hmw|with_reducible exact hm1 _)).mono ?_;rintro e w2 ⟨rfl,n1,rfl⟩;simp only [e1',e2'])
    |(at_lookup;refine q15b _ rfl _ _ 160 rfl 9 hu Tryz.underlying9 (Tryz.zeroValue9 _) b n l rfl (how2 _) ⟨a2.toArray⟩ rfl (by show a2.toArray.size≤_;rw [List.size_toArray];unfold maxLen;omega) ?_)
    |(go_at_call 106;refine (q15h w.heap.size w.heap.size (Lib.byteCells out) _ _ (hB2 _) hlen' (hsz2 _)).mono ?_;rintro e w4 ⟨rfl,hBA,hbl⟩)
    |go_in)
   go_roundw
   case rel=>exact ⟨⟨r2.toArray⟩,out++(a1++getM l a2),k,rfl,by show r2.toArray.size<_;rw [List.size_toArray];omega,by rw [←q7l];exact .inr hBA,(hb2 _).trans hbl,Nat.le_trans hsz hbl.size,hexp⟩
   case measure =>
    have z1:=q2 trivial
    have z2:=q4 trivial
    show r2.toArray.size<sb.size
    rw [List.size_toArray]
    simp only [List.length_cons,List.length_nil] at z1 z2
    omega
  ·have hstop:k1=false∨k2=false:=by
    cases k1 <;> cases k2 <;> simp at hgo ⊢
   rw [if_pos hstop] at hexp
   split at hexp
   case isFalse=>cases hexp
   rename_i hlen
   injection hexp with hexp
   have hlen':(Lib.byteCells out).length+sb.size≤140737488355328:=by rw [hbl0,←hsl];exact hlen
   have hap:Lib.byteCells out++Lib.strCells sb=Lib.byteCells (out++sb.data.toList):=by
    show Lib.byteCells out++Lib.byteCells sb.data.toList=_
    simp [Lib.byteCells]
   have hfin:(⟨r.toArray⟩:ByteArray).extract 0 (min (r.length:Int) 4000).toNat=⟨(r.take 4000).toArray⟩:=q12z r
   rcases hstop with rfl|rfl
   ·go_wp2_with (first
     |(go_at_call 170;refine (qb0 _ _ m _ (by first|with_reducible exact hsb|with_reducible exact hr1) (by first|with_reducible exact hmw|with_reducible exact hm1 _)).mono ?_;rintro e w2 ⟨rfl,n1,rfl⟩;simp only [e1',e2'])
     |(go_at_call 106;refine (q15h w.heap.size w.heap.size (Lib.byteCells out) _ _ (hB2 _) hlen' (hsz2 _)).mono ?_;rintro e w4 ⟨rfl,hBA,hbl⟩;rw [hap] at hBA;have hsz4:=Nat.le_trans hsz hbl.size;have hw4:=(hb2 _).trans hbl)
     |(go_at_call 107;refine (q7g w.heap.size w.heap.size (out++sb.data.toList) _ (.inr hBA) hsz4).mono ?_;rintro e w5 ⟨rfl,hbl5⟩)
     |go_in)
    all_goals (go_ret;exact ⟨by rw [←hfin];rfl,hw4.trans hbl5⟩)
   ·go_wp2_with (first
     |(go_at_call 170;refine (qb0 _ _ m _ (by first|with_reducible exact hsb|with_reducible exact hr1) (by first|with_reducible exact hmw|with_reducible exact hm1 _)).mono ?_;rintro e w2 ⟨rfl,n1,rfl⟩;simp only [e1',e2'])
     |(go_at_call 106;refine (q15h w.heap.size w.heap.size (Lib.byteCells out) _ _ (hB2 _) hlen' (hsz2 _)).mono ?_;rintro e w4 ⟨rfl,hBA,hbl⟩;rw [hap] at hBA;have hsz4:=Nat.le_trans hsz hbl.size;have hw4:=(hb2 _).trans hbl)
     |(go_at_call 107;refine (q7g w.heap.size w.heap.size (out++sb.data.toList) _ (.inr hBA) hsz4).mono ?_;rintro e w5 ⟨rfl,hbl5⟩)
     |go_in)
    all_goals (go_ret;exact ⟨by rw [←hfin];rfl,hw4.trans hbl5⟩)
end Go.Proofs.YtfakibajjibjjaaGreatDoor
namespace Go.Proofs.YtfakibajjibjjaaGreatDoor
open Go.RowKit
def spW (w:World) (u v:Value):World:=((w.alloc (.cells #[u] 50)).alloc (.cells #[v] 50)).alloc (.cells #[.int .i64 0] 3)
set_option maxRecDepth 100000 in
theorem q103 (A B:Option Addr) (n c k d:Nat) (w:World):Calls Tryz.prog 194 #[.slice A n c,.slice B k d,.int .i64 0] w fun e w' =>
  e=.returned (.func (.func 222) #[] #[.pointer (some ⟨w.heap.size+1,0,none⟩),.pointer (some ⟨w.heap.size,0,none⟩),.pointer (some ⟨w.heap.size+2,0,none⟩)])∧w'=spW w (.slice A n c) (.slice B k d):=by
 go_enter Tryz.func194,Tryz.ntmps194
 go_wp2
 go_ret
 first|exact ⟨rfl,rfl⟩|skip
set_option maxRecDepth 100000 in
theorem q107 (A B:Option Addr) (n c k d:Nat) (w:World):Calls Tryz.prog 147 #[.slice A n c,.slice B k d] w fun e w' =>
  e=.returned (.func (.func 222) #[] #[.pointer (some ⟨w.heap.size+1,0,none⟩),.pointer (some ⟨w.heap.size,0,none⟩),.pointer (some ⟨w.heap.size+2,0,none⟩)])∧w'=spW w (.slice A n c) (.slice B k d):=by
 go_enter Tryz.func147,Tryz.ntmps147
 go_wp2_with (go_at_call 194;refine (q103 A B n c k d _).mono ?_;rintro e w' ⟨rfl,rfl⟩)
 go_ret
 first|exact ⟨rfl,rfl⟩|skip
theorem q70 {mm:Nat} (a1 a2:Addr) (n c1 k c2:Nat) (xs ys:List Int) (m:Int) (w:World) (hx:xs.length=n) (hy:ys.length=k) (hr1:∀ x∈xs,0≤x∧x<256) (hr2:∀ y∈ys,0≤y∧y<256)
  (hc1:∀ i,i<n→w.cell? (a1.add i)=some (.int .u8 (xs.getD i 0))) (hc2:∀ i,i<k→w.cell? (a2.add i)=some (.int .u8 (ys.getD i 0))) (hcap:n≤c1) (hs:n<4294967281) (hk:k≤9223372036854775807) (hm:w.cell? ⟨0,0,none⟩=some (.int .i64 m)) :
  CallsIn Fence.wide mm Tryz.prog 224 #[.slice (some a1) n c1,.slice (some a2) k c2] w fun e w'=>e=.returned (.int .i64 (Lib.index (Lib.bytesOf xs) (Lib.bytesOf ys)))∧∃ q,w'=w.drewN q :=
 callsIn_wide.2 (Any.bytes_Index_at lays185 a1 a2 n c1 k c2 xs ys m w hx hy hr1 hr2 hc1 hc2 hcap hs hk hm)
structure SpI (W:World) (p1 p2 p3 g:Nat) (s:Value) (m:Int):Prop where
 sep:W.cell? ⟨p1,0,none⟩=some (.slice (some ⟨g,0,none⟩) 2 2)
 s:W.cell? ⟨p2,0,none⟩=some s
 fr:W.frozen? ⟨p2,0,none⟩=false
 sv:W.cell? ⟨p3,0,none⟩=some (.int .i64 0)
 g0:W.cell? ⟨g,0,none⟩=some (.int .u8 13)
 g1:W.cell? ⟨g,1,none⟩=some (.int .u8 10)
 ml:W.cell? ⟨0,0,none⟩=some (.int .i64 m)
set_option maxHeartbeats 4000000 in
set_option maxRecDepth 100000 in
theorem q102 (l p1 p2 p3 g b off c:Nat) (mm:Int) (W0:World) (hc:4≤c) (hcm:c≤maxLen) (h:SpI W0 p1 p2 p3 g (.slice (some ⟨b,off,none⟩) 4 c) mm)
  (h0:W0.cell? ⟨b,off,none⟩=some (.int .u8 104)) (h1:W0.cell? ⟨b,off+1,none⟩=some (.int .u8 105)) (h2:W0.cell? ⟨b,off+2,none⟩=some (.int .u8 13)) (h3:W0.cell? ⟨b,off+3,none⟩=some (.int .u8 10))
  (J1 J2:World→Prop) (hJ1:∀ W,J1 W→SpI W p1 p2 p3 g (.slice (some ⟨b,off,none⟩) 4 c) mm)
  (hy1:∀ q m,YieldAt Fence.wide m Tryz.prog l #[.slice (some ⟨b,off,none⟩) 2 2] (W0.drewN q) fun e W'=>e=.returned (.bool true)∧J1 W')
  (hy2:∀ W q m a c',J1 W→SpI (W.setCell ⟨p2,0,none⟩ (.slice (some a) 0 c')) p1 p2 p3 g (.slice (some a) 0 c') mm∧YieldAt Fence.wide m Tryz.prog l #[.slice (some a) 0 0] ((W.setCell ⟨p2,0,none⟩ (.slice (some a) 0 c')).drewN q) fun e W'=>e=.returned (.bool true)∧J2 W') :
  CallsIn Fence.wide 5 Tryz.prog 222 #[.func (.yield l) #[] #[],.pointer (some ⟨p1,0,none⟩),.pointer (some ⟨p2,0,none⟩),.pointer (some ⟨p3,0,none⟩)] W0 fun e W'=>(∃ v,e=.returned v)∧J2 W':=by
 have i0:=h.sep;have i1:=h.s;have i2:=h.sv
 refine callsIn_of_wp Tryz.func222 rfl trivial ?_ rfl
 simp only [Tryz.ntmps222,List.size_toArray,List.length_cons,List.length_nil,Nat.reduceAdd,Nat.reduceSub,Array.replicate_succ,Array.replicate_zero,List.push_toArray,List.append_toArray,List.nil_append,List.cons_append]
 have hix:∀ mm',CallsIn Fence.wide mm' Tryz.prog 224 #[.slice (some ⟨b,off,none⟩) 4 c,.slice (some ⟨g,0,none⟩) 2 2] W0 fun e w'=>e=.returned (.int .i64 2)∧∃ q,w'=W0.drewN q:=fun mm' =>
  (q70 ⟨b,off,none⟩ ⟨g,0,none⟩ 4 c 2 2 [104,105,13,10] [13,10] mm W0 rfl rfl (by decide) (by decide) (fun i hi=>by
   match i,hi with
   |0,_=>simpa [Addr.add] using h0
   |1,_=>simpa [Addr.add] using h1
   |2,_=>simpa [Addr.add] using h2
   |3,_=>simpa [Addr.add] using h3) (fun i hi=>by
   match i,hi with
   |0,_=>simpa [Addr.add] using h.g0
   |1,_=>simpa [Addr.add] using h.g1) hc (by decide) (by decide) h.ml).mono fun e w' he=>⟨he.1,he.2⟩
 gi_wp2
 refine wpIn_loop_rounds 2 ?_
 rw [roundsIn_succ]
 gi_wp2_with (refine ⟨trivial,(hix _).mono ?_⟩;rintro e w' ⟨rfl,q,rfl⟩;obtain ⟨fn1,tm1,as1,bo1,hyr1,hR1⟩:=hy1 q 4)
 refine hR1.mono ?_
 rintro e W1 ⟨rfl,hj1⟩
 have k0:=(hJ1 _ hj1).sep
 have k1:=(hJ1 _ hj1).s
 have k2:=(hJ1 _ hj1).sv
 have k3:=(hJ1 _ hj1).fr
 gi_wp2
 all_goals
  rw [roundsIn_succ]
  generalize hW2:W1.setCell _ _=W2
  have hh:∀ a c',W1.setCell ⟨p2,0,none⟩ (.slice (some a) 0 c')=W2→SpI W2 p1 p2 p3 g (.slice (some a) 0 c') mm∧∀ q m,YieldAt Fence.wide m Tryz.prog l #[.slice (some a) 0 0] (W2.drewN q) fun e W'=>e=.returned (.bool true)∧J2 W':=by
   rintro a c' rfl
   exact ⟨(hy2 W1 0 0 a c' hj1).1,fun q m=>(hy2 W1 q m a c' hj1).2⟩
  obtain ⟨hI2,hY2⟩:=hh _ _ hW2
  clear hh
  have l0:=hI2.sep;have l1:=hI2.s;have l2:=hI2.sv
  have hix2:∀ mm' a c',CallsIn Fence.wide mm' Tryz.prog 224 #[.slice (some a) 0 c',.slice (some ⟨g,0,none⟩) 2 2] W2 fun e w'=>e=.returned (.int .i64 (-1))∧∃ q,w'=W2.drewN q:=fun mm' a c' =>
   (q70 a ⟨g,0,none⟩ 0 c' 2 2 [] [13,10] mm W2 rfl rfl (by decide) (by decide) (fun i hi=>by omega) (fun i hi=>by
    match i,hi with
    |0,_=>simpa [Addr.add] using hI2.g0
    |1,_=>simpa [Addr.add] using hI2.g1) (by omega) (by decide) (by decide) hI2.ml).mono fun e w' he=>⟨he.1,he.2⟩
  clear hI2 hy2 hW2
  gi_wp2_with (refine ⟨trivial,(hix2 _ _ _).mono ?_⟩;rintro e w' ⟨rfl,q2,rfl⟩;obtain ⟨fn2,tm2,as2,bo2,hyr2,hR2⟩:=hY2 q2 4)
  refine hR2.mono ?_
  rintro e W3 ⟨rfl,hj2⟩
  gi_wp2
  first|go_end0|go_ret|skip
  exact ⟨⟨_,rfl⟩,hj2⟩
variable {F:Fence} {n:Nat} {P:Program}
def recL (fn:FuncId) (tmps:Array Value) (ps:Array Tmp) (assign body:Code) (D:Nat) (st:LoopState) (pe:Option Code):Loop :=
 { state:=st,pending:=pe,fn,tmps,params:=ps,assign,body,defers:=D }
theorem quj {g:Operand} {ps:Array Tmp} {assign body:Code} {Q:Exit→Act→World→Prop} {a:Act} {w:World} (hro:F.round=none) (h1:1≤n) {gf:Nat} {lb:Array Value}
  (hg:a.eval g=.func (.func gf) #[] lb) (hFg:F.fn gf) (eg:∀ args w,(callFunc gf args).run P w=.ok (.enter gf args) w)
  (h:∀ fn,F.fn fn→CallsIn F (n - 1) P gf ((#[Value.func (Fn.yield (w.heap.size+1)) #[] #[]]:Array Value)++lb) ((w.alloc (.deferred (some []))).alloc (.loop (recL fn a.tmps ps assign body w.heap.size .ready none)))
   (rangePost F n P (w.heap.size+1) Q { a with defers:=[{ target:=.collected w.heap.size,args:=#[] }]++a.defers })) :
  (Code.rangeFunc g ps assign body).wpIn F n P Q a w:=by
 refine wpIn_rangeFunc ?_
 intro fn hfn
 rw [hro]
 have h2:=h fn hfn
 obtain ⟨W1,hW1⟩:∃ W1,W1=(w.alloc (.deferred (some []))).alloc (.loop (recL fn a.tmps ps assign body w.heap.size .ready none)):=⟨_,rfl⟩
 rw [←hW1] at h2
 refine ⟨w.heap.size+1,[{ target:=.collected w.heap.size,args:=#[] }],W1,{ target:=.fn (.func gf) lb,args:=#[.func (.yield (w.heap.size+1)) #[] #[]] },W1,gf,
  #[.func (.yield (w.heap.size+1)) #[] #[]]++lb,W1,?_,?_,?_,?_,fun _=>h1,?_⟩
 ·rw [hW1];exact run_enterLoop_outer _ _ _ _ _
 ·simp only [resolve,hg]
  simp [go_sem]
 ·intro f' hf';simp [Target.leads] at hf';subst hf';exact hFg
 ·simp [invoke,go_sem,eg]
 ·exact h2
def rndPost (l:Nat) (rec:LoopState→Option Code→Loop) (R:Ending→World→Prop):Exit→Act→World→Prop
 |.normal,_,w=>w.heap[l]?=some (.loop (rec .busy none))∧R (.returned (.bool true)) (w.putObj l (.loop (rec .ready none)))
 |.exit id,_,w=>w.heap[l]?=some (.loop (rec .busy none))∧R (.returned (.bool false)) (w.putObj l (.loop (rec .done (some (.exit id)))))
 |.ret,_,w=>w.heap[l]?=some (.loop (rec .busy none))∧R (.returned (.bool false)) (w.putObj l (.loop (rec .done (some .ret))))
 |_,_,_=>False
def AtW (W:World) (p:World→Prop):Prop:=∀ W2,W2=W→p W2
theorem q15i {m l:Nat} {fn:FuncId} {tmps:Array Value} {ps:Array Tmp} {assign body:Code} {D:Nat} {args:Array Value} {W:World} {R:Ending→World→Prop} (hfn:F.fn fn)
  (hl:W.heap[l]?=some (.loop (recL fn tmps ps assign body D .ready none))) (hps:args.size=ps.size)
  (h:assign.wpIn (F.inRound l) m P (Exit.then (fun a₁ w₁=>w₁=W∧AtW (W.putObj l (.loop (recL fn tmps ps assign body D .busy none))) fun W2 =>
    body.wpIn (F.inRound l) m P (rndPost l (recL fn tmps ps assign body D) R) a₁ W2) (fun _ _ _=>False))
   { tmps:=(ps.zip args).foldl (fun t (p,v)=>t.setIfInBounds p v) tmps,defers:=[] } W):YieldAt F m P l args W R:=by
 have hy:=run_yield (P:=P) (args:=args) hl hps
 refine ⟨fn,_,assign,body,hy,roundIn_of_wpIn hfn (wpIn_mono h ?_)⟩
 intro e a w hq
 cases e with
 |normal =>
  obtain ⟨h1,h2⟩:=hq
  subst h1
  refine ⟨_,run_beginRound hl rfl,wpIn_mono (h2 _ rfl) ?_⟩
  intro e2 a2 w2 hq2
  cases e2 with
  |normal=>exact ⟨_,_,run_endRound none hq2.1,hq2.2⟩
  |exit id=>exact ⟨_,_,run_endRound (some (.exit id)) hq2.1,hq2.2⟩
  |ret=>exact ⟨_,_,run_endRound (some .ret) hq2.1,hq2.2⟩
  |goto t=>exact hq2.elim
  |panic c=>exact hq2.elim
  |outgrown=>exact hq2.elim
 |exit id=>exact hq.elim
 |goto t=>exact hq.elim
 |ret=>exact hq.elim
 |panic c=>exact hq.elim
 |outgrown=>exact hq.elim
end Go.Proofs.YtfakibajjibjjaaGreatDoor
