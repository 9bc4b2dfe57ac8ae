/- strings.ContainsAny over CR, LF, 0, at any text. -/
import Derived.Test.YtmlcmoaonaomfaaGreatDoorZ25
import Derived.Lib.SlMapFilter
import Derived.Maps.OwnOps
import Derived.Tactics
import Derived.Tactics2
import Derived.Laws.Pointers
import Derived.Laws.LoneSync
import Derived.RegionCalls
import Derived.ChangeAlike
import Derived.Deep.WholeRow
import Derived.Lib.LazyBuf
import Derived.Lib.ConvBytes
import Derived.Laws.IdiomStrings
namespace Go.Proofs.YtmlcmoaonaomfaaGreatDoor
open Go.RowKit Go.ChangeMaps
theorem q1c4 {P:Program} (W:World) (r:Nat) (s:BA) (pos:Nat) (h:W.heap[r]?=some (.stringIter s pos)) (hp:pos<s.size) (ty:TypeId) :
  (Instr.next (.pointer (some ⟨r,0,none⟩)) true ty).run P W=.ok (.tuple #[.bool true,.int .i64 pos,.int .i32 (Utf8.decode s pos).1]) (setBlock W r (.stringIter s (pos+(Utf8.decode s pos).2))):=by
 simp [Instr.next,getObj,setObj,Sem.run,h,hp,Result.andThen,goInt,setBlock]
theorem q1c5 {P:Program} (W:World) (r:Nat) (s:BA) (pos:Nat) (h:W.heap[r]?=some (.stringIter s pos)) (hp:¬ pos<s.size) (ty:TypeId) :
  (Instr.next (.pointer (some ⟨r,0,none⟩)) true ty).run P W=.ok (.tuple #[.bool false]) W:=by
 simp [Instr.next,getObj,Sem.run,h,hp]
theorem qqd (s:BA) (r:Int) (w:World) (h0:0<=r) (h1:r<128):Calls Tryz.prog 179 #[.string s,.int .i32 r] w λe w'=>e=.returned (.int .i64 (Lib.indexByte s.data.toList r.toNat.toUInt8))/\w'=w:=Any.strings_IndexRune_ascii lays152 s r w h0 h1
theorem qot (s chars:BA) (w:World) (h2:2<=chars.size) (h8:8<s.size) (hs:s.size<4294967281) (hcs:chars.size<4294967281) (hascii:∀ (j:Nat) b,chars.data.toList[j]?=some b->b.toNat<128) :
  Calls Tryz.prog 155 #[.string s,.string chars] w λe w'=>e=.returned (.int .i64 (Lib.indexAny s.data.toList chars.data.toList))/\Below w.heap.size w w':=by
 refine (Any.strings_IndexAny_long lays153 (λw=>by kernel_rfl) (by kernel_rfl) s chars w h2 h8 hs hcs hascii).mono λe w'=>?_
 rintro ⟨rfl,rfl⟩;exact ⟨rfl,((Below.refl _ _).alloc (Nat.le_refl _) _).alloc (by simp) _⟩
theorem q1ez (n:Int) (w:World):Calls Tryz.prog 180 #[.int .i64 n] w λe w'=>e=.returned (.bool (decide (8<n)))/\w'=w:=Any.strings_shouldUseASCIISet { lays153 with } n w
theorem quw {s:BA} {i k:Nat} (h:Lib.NoAny s.data.toList crlf0 i) (hk:∀ j (hj:j<s.size),i<=j->j<k->crlf0.contains (s[j]'hj)=false):Lib.NoAny s.data.toList crlf0 k:=λj b hj hb=>by
 by_cases e:j<i
 ·exact h j b e hb
 ·obtain ⟨hj2,hb2⟩:=y2q.1 hb
  have hj3:j<s.size:=by rw [x24q] at hj2;exact hj2
  have:=hk j hj3 (by omega) hj
  rw [←hb2];exact this
theorem qag (b:UInt8) (h:128<=b.toNat):crlf0.contains b=false:=by
 unfold crlf0;have h1:b≠13:=λe=>by subst e;revert h;decide
 have h2:b≠10:=λe=>by subst e;revert h;decide
 have h3:b≠0:=λe=>by subst e;revert h;decide
 simp [h1,h2,h3]
theorem q7u {B:Nat} {a w:World} (h:Below B a w) {r:Nat} (hr:B<=r) (o:Obj):Below B a (setBlock w r o) :=
 ⟨h.os,h.tape,h.output,by simp only [setBlock,y46q];exact h.size,λk hk=>by
  simp only [setBlock];rw [y11q (by omega)]
  exact h.block k hk⟩
set_option maxHeartbeats 8000000 in
set_option maxRecDepth 1000000 in
theorem qou (s:BA) (w:World) (h8:s.size<=8) :
  Calls Tryz.prog 155 #[.string s,.string ⟨#[13,10,0]⟩] w λe w'=>e=.returned (.int .i64 (Lib.indexAny s.data.toList crlf0))/\Below w.heap.size w w':=by
 have h8z:decide ((8:Int)<(s.size:Int))=false:=decide_eq_false (by omega)
 have hb0:Below w.heap.size w (w.iter s 0):=q7r _ _;have hi0:=World.iter_heap w s 0
 go_enter Tryz.func155,Tryz.ntmps155
 go_wp2_with (go_at_call 180;refine (q1ez _ _).mono ?_;rintro e w' ⟨rfl,hw⟩;rw [hw,h8z])
 go_loopg [9,10] s.size (λg _ _ wx=>∃ i:Nat,i+g=s.size/\wx.heap[w.heap.size]?=some (.stringIter s i)/\Below w.heap.size w wx/\Lib.NoAny s.data.toList crlf0 i)
 case atStart=>exact ⟨0,by omega,hi0,hb0,Lib.NoAny.zero _ _⟩
 case round =>
  obtain ⟨i,hig,hit,hbel,hno⟩:=hrel;cases gk with
  |zero =>
   obtain rfl:i=s.size:=by omega
   have hnx:=q1c5 (P:=Tryz.prog) wr w.heap.size s s.size hit (by omega)
   have hnone:Lib.indexAny s.data.toList crlf0=-1:=Lib.indexAny_none (by rw [x24q];exact hno)
   go_wp2
   go_ret
   exact ⟨by rw [hnone];rfl,hbel⟩
  |succ g =>
   have hi:i<s.size:=by omega
   have hnx:=q1c4 (P:=Tryz.prog) wr w.heap.size s i hit hi;have hlt:=(y6q.1 hit).1
   by_cases hx:(s[i]'hi).toNat<128
   ·rw [decode_ascii s i hi hx] at hnx
    simp only at hnx;have hset:(setBlock wr w.heap.size (.stringIter s (i+1))).heap[w.heap.size]?=some (.stringIter s (i+1)):=by simp only [setBlock];rw [y27q hlt]
    have hb1:=q7u hbel (Nat.le_refl _) (.stringIter s (i+1));obtain ⟨x,hxe⟩:∃ x:UInt8,s[i]'hi=x:=⟨_,rfl⟩;rw [hxe] at hnx hx;have hxl:s.data.toList[i]?=some x:=by rw [←hxe];exact Lib.data_getElem? s i hi
    have hcon:=Lib.contains_iff_indexByte crlf0 x;have hback:((x.toNat:Int)).toNat.toUInt8=x:=by simp
    have hr:=λW=>qqd ⟨#[13,10,0]⟩ (x.toNat:Int) W (by omega) (by omega)
    rw [hback] at hr;have hcd:(⟨#[13,10,0]⟩:BA).data.toList=crlf0:=rfl
    rw [hcd] at hr;cases hin:crlf0.contains x with
    |false =>
     rw [hin] at hcon;have hlt0:¬ ((0:Int)<=Lib.indexByte crlf0 x):=of_decide_eq_false hcon.symm
     have hno1:Lib.NoAny s.data.toList crlf0 (i+1):=hno.succ hxl hin;clear hcon
     go_wp2_with (first
      |(go_at_call 179;refine (hr _).mono ?_;rintro e w' ⟨rfl,rfl⟩)
      |go_in)
     go_roundg g
     case measure=>omega
     case rel=>exact ⟨i+1,by omega,hset,hb1,hno1⟩
    |true =>
     rw [hin] at hcon;have hge0:(0:Int)<=Lib.indexByte crlf0 x:=of_decide_eq_true hcon.symm
     have hhit:Lib.indexAny s.data.toList crlf0=i:=Lib.indexAny_hit hno hxl hin;clear hcon
     go_wp2_with (first
      |(go_at_call 179;refine (hr _).mono ?_;rintro e w' ⟨rfl,rfl⟩)
      |go_in)
     go_ret
     exact ⟨by rw [hhit];rfl,hb1⟩
   ·obtain ⟨d1,d2,d3,d4,d5⟩:=qb4 s i hi (by omega)
    have hno1:Lib.NoAny s.data.toList crlf0 (i+(Utf8.decode s i).2):=quw hno (λj hj h1 h2=>qag _ (d5 j hj h1 h2));generalize (Utf8.decode s i).1=c at hnx d1 d2;generalize (Utf8.decode s i).2=k at hnx d3 d4 d5 hno1;have hset:(setBlock wr w.heap.size (.stringIter s (i+k))).heap[w.heap.size]?=some (.stringIter s (i+k)):=by simp only [setBlock];rw [y27q hlt]
    have hb1:=q7u hbel (Nat.le_refl _) (.stringIter s (i+k));have hsz1:w.heap.size<(setBlock wr w.heap.size (.stringIter s (i+k))).heap.size:=by simp only [setBlock,y46q];exact hlt
    have hr:=λW=>qqe (c:Int) (by omega) W
    go_wp2_with (first
     |(go_at_call 179;refine (hr _).mono ?_;rintro e w' ⟨rfl,hbw⟩)
     |go_in)
    go_roundg (s.size - (i+k))
    case measure=>omega
    case rel=>exact ⟨i+k,by omega,by rw [hbw.block _ hsz1];exact hset,hb1.trans (hbw.mono (by omega)),hno1⟩
end Go.Proofs.YtmlcmoaonaomfaaGreatDoor
namespace Go.Proofs.YtmlcmoaonaomfaaGreatDoor
open Go.RowKit Go.Maps
def digL (l:List UInt8):Bool:=match l with
 |b::_=>decide (48<=b.toNat)&&decide (b.toNat<=57)
 |[]=>false
def pdL (k:Lit) (_:DataW Unit):Bool:=match k with
 |.string l=>digL l
 |_=>false
theorem qie (l:List (BA×BA)):Lib.deleteFuncD pdL (datM l)=datM (l.filter λp=>!digP p.1):=by
 unfold datM Lib.deleteFuncD;simp only;congr 1;induction l with
 |nil=>rfl
 |cons p l ih =>
  rw [y20q,List.filter_cons,List.filter_cons];have:(!pdL (litM p).1 (litM p).2)=!digP p.1:=rfl
  rw [this];cases !digP p.1 with
  |true=>simp [ih]
  |false=>simpa using ih
theorem qmc (w:World) (row:Oq Nat):w.grownBy w row:=⟨rfl,rfl,rfl,Nat.le_refl _,λ_ _ _=>rfl⟩
theorem qbb (k:BA) (h:0<k.size):digP k=(decide ((48:Int)<=(k[0].toNat:Int))&&decide ((k[0].toNat:Int)<=57)):=by
 obtain ⟨⟨l⟩⟩:=k;cases l with
 |nil=>cases h
 |cons b l =>show (decide (48<=b.toNat)&&decide (b.toNat<=57))=(decide ((48:Int)<=(b.toNat:Int))&&decide ((b.toNat:Int)<=57));rw [Bool.eq_iff_iff];simp;omega
set_option maxRecDepth 100000 in
theorem qbc (k v:BA) (hk:k.size≠0) (w:World):Calls Tryz.prog 145 #[.string k,.string v] w λe w'=>e=.returned (.bool (digP k))/\w.grownBy w' none:=by
 have hp:=qbb k (by omega)
 go_enter Tryz.func145,Tryz.ntmps145
 go_wp2
 ·go_ret
  refine ⟨?_,qmc _ _⟩
  first|rw [hp]|skip
  rename_i h;simp [h]
 ·go_ret
  refine ⟨?_,qmc _ _⟩
  first|rw [hp]|skip
  rename_i h;have:decide ((48:Int)<=(k[0].toNat:Int))=false:=decide_eq_false (by omega)
  rw [this];rfl
set_option maxRecDepth 100000 in
theorem RM_inv {v:Value} {y:DataW Unit×List MemPlace} (h:RM Tryz.prog 9 v=some y):∃ s,v=.string s:=by unfold RM plainElem at h;rw [Tryz.underlying9] at h;cases v <;> simp at h;exact ⟨_,rfl⟩
set_option maxHeartbeats 4000000 in
set_option maxRecDepth 100000 in
theorem qb9 (b n:Nat) (l:List (BA×BA)) (w:World) (hown:w.ownsMap Tryz.prog 9 (RM Tryz.prog 9) b n (datM l)) (hne:∀ p∈l,p.1.size≠0) :
  Calls Tryz.prog 144 #[.map (some b),.func (.func 145) #[] #[]] w λe w'=>e=.returned (.tuple #[])/\w'.ownsMap Tryz.prog 9 (RM Tryz.prog 9) b n (datM (l.filter λp=>!digP p.1))/\w.grownBy w' (some b):=by
 have K:=Maps.string_keyed Tryz.underlying9;have hu:Tryz.prog.underlying 114=some (.map 9 9):=Tryz.underlying114
 obtain ⟨es0,hes,hap,hkeys⟩:=hown.entries K;have hes':l.map litM=es0:=by unfold datM at hes;injection hes
 have hcalls:=qbc;have hfin:=qie l
 rw [hes] at hown hfin;have hin:∀ (k:BA),Maps.has (.map es0) (.string k.data.toList)=true->k.size≠0:=by
  intro k hk;rw [Maps.has_eq,List.any_eq_true] at hk;obtain ⟨p,hp,hs⟩:=hk;rw [←hes',List.mem_map] at hp;obtain ⟨q,hq,rfl⟩:=hp;have h0:=hne q hq
  have e:q.1.data.toList=k.data.toList:=by simpa [litM,Lit.sameKey] using hs
  have e2:q.1.data.toList.length=q.1.size:=by rw [x24q];rfl
  have e3:k.data.toList.length=k.size:=by rw [x24q];rfl
  rw [←e3,←e,e2];exact h0
 rw [←hfin];clear hfin
 go_enter Tryz.func144,Tryz.ntmps144
 go_wp2_with (first
  |(at_range;refine wpList_range_own _ rfl _ 114 rfl 9 9 K hu _ b n _ rfl hown ?_;intro w0 hrg0 hg0 hs0)
  |go_in)
 go_frame
 go_loopw [8] (λ_ wr=>∃ (left:Lit->Bool) (cnt:Nat),wr.ranges Tryz.prog 9 (RM Tryz.prog 9) b w.heap.size n (Fk pdL es0 left) left cnt/\w.grownBy wr (some b)/\∀ kl,left kl=true->Maps.has (.map es0) kl=true)
  (λ_ wr=>wr.rangeLeft b w.heap.size)
 case atStart=>exact ⟨_,_,by rw [Fk_start hkeys];exact hrg0,hg0.but _,λ_ h=>h⟩
 case round =>
  obtain ⟨left,cnt,hrg,hgw,hlf⟩:=hrel
  go_wp2_with (first
   |(at_next;refine wpList_next_ranges _ rfl _ rfl 9 K (RM Tryz.prog 9) Value.string Value.string (λkey kl h=>by obtain ⟨s,e,_⟩:=(qqj Tryz.underlying9 _ _).1 h;exact ⟨s,e⟩) (λv y h=>RM_inv h) b w.heap.size n _ _ _ rfl hrg ?_ ?_)
   |go_in)
  ·intro _ hl0
   go_wp2
   go_end0
   exact ⟨rfl,by rw [←Fk_end hl0];exact hrg.owns,hgw⟩
  ·intro k v kl yd yp w1 cnt1 hkey hlx hv hat hrg1 hlt hg1 hs1 hen
   have hgw1:=hgw.andThen hg1 (λj hj=>by cases hj;exact Or.inl (Nat.le_refl _))
   obtain ⟨k',ek,hks,rfl⟩:=(qqj Tryz.underlying9 _ _).1 hkey;cases ek;have hk0:=hin k (hlf _ hlx)
   have hc:=hcalls k v hk0 w1;have hbl:=hrg1.owns.lt
   have hrl:=hrg1.lt;have hpe:pdL (.string k.data.toList) yd=digP k:=rfl
   cases hp:digP k <;> rw [hp] at hc hpe
   ·go_wp2_with (first
     |(go_at_call 145;refine hc.mono ?_;rintro e w2 ⟨rfl,hg2⟩)
     |go_in)
    have hrg2:=hrg1.kept hg2 (by simp) (by simp)
    go_roundw
    case rel=>exact ⟨_,cnt1,by rw [←Fk_stays hap (kl:=.string k.data.toList) trivial hlx hpe hat];exact hrg2,hgw1.andThen hg2 (λj hj=>by cases hj),λz hz=>hlf z (by simp at hz;exact hz.1)⟩
    case measure=>rw [hrg2.left_eq,hrg.left_eq];exact hlt
   ·go_wp2_with (first
     |(go_at_call 145;refine hc.mono ?_;rintro e w2 ⟨rfl,hg2⟩;have hrg2:=hrg1.kept hg2 (by simp) (by simp))
     |(at_delete;refine wpList_delete_ranges _ rfl _ _ 114 9 rfl 9 K hu (RM Tryz.prog 9) b w.heap.size n _ _ _ rfl hrg2 _ _ rfl hkey ?_;intro w3 cnt3 hrg3 hle hturn;go_frame)
     |go_in)
    rw [strike_twice] at hrg3
    go_roundw
    case rel=>exact ⟨_,cnt3,by rw [←Fk_struck hap (kl:=.string k.data.toList) trivial hlx hpe hat];exact hrg3,(hgw1.andThen hg2 (λj hj=>by cases hj)).andThen hturn.grown (λj hj=>by cases hj;exact Or.inr rfl),λz hz=>hlf z (by simp at hz;exact hz.1)⟩
    case measure=>rw [hrg3.left_eq,hrg.left_eq];omega
theorem qah (s sep:BA) (m:Int) (w:World) (hs:s.size<4294967281) (hm:w.cell? ⟨0,0,none⟩=some (.int .i64 m)) :
  Calls Tryz.prog 125 #[.string s,.string sep] w λe w'=>e=.returned (.tuple #[.string ⟨(Lib.cut s.data.toList sep.data.toList).1.toArray⟩,.string ⟨(Lib.cut s.data.toList sep.data.toList).2.1.toArray⟩,.bool (Lib.cut s.data.toList sep.data.toList).2.2])/\∃ n,w'=w.drewN n:=Any.strings_Cut lays145 s sep m w hs hm
theorem q1jv (B b:Nat) (bs:List Value) (s:BA) (w:World) (h:Lib.IsBuilder 138 5 B b bs w) (hlen:bs.length+s.size<=140737488355328) (hBw:B<=w.heap.size) :
  Calls Tryz.prog 85 #[.pointer (some ⟨b,0,none⟩),.string s] w λe w'=>e=.returned (.tuple #[.int .i64 s.size,.nilIface])/\(Lib.BuilderAt 138 5 B b (.pointer (some ⟨b,0,none⟩)) (bs++Lib.strCells s) w'/\Below B w w'):=Any.Builder_WriteString lays166 qc B b bs s w h hlen hBw
theorem q8e (B b:Nat) (l:List UInt8) (w:World) (h:Lib.IsBuilder 138 5 B b (Lib.byteCells l) w) (hBw:B<=w.heap.size) :
  Calls Tryz.prog 86 #[.pointer (some ⟨b,0,none⟩)] w λe w'=>e=.returned (.string ⟨l.toArray⟩)/\Below B w w':=Any.Builder_String_any lays169 qd B b l w h hBw
theorem q4c (k:List UInt8):∀ l:List (BA×BA),(datM l).atKey (.string k) (.lit (.string []))=.lit (.string (getM l k)):=by
 intro l;unfold datM DataW.atKey getM;simp only;induction l with
 |nil=>rfl
 |cons p l ih =>
  rw [y20q,List.find?_cons,List.find?_cons];have:(litM p).1.sameKey (.string k)=(p.1.data.toList==k):=rfl
  simp only [this];cases p.1.data.toList==k with
  |true=>rfl
  |false=>exact ih
theorem q1jl {P:Program} (w:World) {ops:Array Oper} {rest:List Oper} {o:Oper} {a:Act} {Q:Exit->Act->World->Prop}
  (hg:o.guard=none) (m x:Operand) (t:TypeId) (hop:o.op=Op.lookup t m x false) (k:TypeId) (ht:P.underlying t=some (.map k k)) (he:P.underlying k=some .string) (hz:(zeroValue k).run P w=.ok (.string ⟨#[]⟩) w) (b n:Nat) (l:List (BA×BA))
  (hm:a.eval m=.map (some b)) (hown:w.ownsMap P k (RM P k) b n (datM l)) (key:BA) (hx:a.eval x=.string key) (hks:key.size<=maxLen)
  (hK:wpList P ops Q rest (a.put o.dst (.string ⟨(getM l key.data.toList).toArray⟩)) w):wpList P ops Q (o::rest) a w:=by
 refine wpList_plain hg λK' hK'=>?_;obtain ⟨v,ps,hrun,hv⟩:=hown.lookup (t:=t) (e:=k) (Maps.string_keyed he) ht hz (zd:=.lit (.string [])) (zp:=[]) (plainElem_string he (s:=⟨#[]⟩) (Nat.zero_le _)) (key:=.string key) (kl:=.string key.data.toList) ((qqj he _ _).2 ⟨key,rfl,hks,rfl⟩);rw [q4c] at hv;have hv2:v=.string ⟨(getM l key.data.toList).toArray⟩:=by
  unfold RM plainElem at hv;rw [he] at hv;cases v <;> simp at hv;rename_i s;have e:=hv.2.1
  rw [←e,Array.toArray_toList]
 subst hv2;unfold Oper.wp;simp [execOp,hop,hm,hx,hrun,Result.andThen];exact hK' _ _ hK
theorem qwk {P:Program} {k:TypeId} {b n:Nat} {D:DataW Unit} {w w':World} (h:w.ownsMap P k (RM P k) b n D) (e:w'.heap[b]?=w.heap[b]?):w'.ownsMap P k (RM P k) b n D:=by obtain ⟨es,clock,hb,r⟩:=h;exact ⟨es,clock,by rw [e];exact hb,r⟩
theorem qai (s:List UInt8) (sep:List UInt8) (h:(Lib.cut s sep).2.2=true):(Lib.cut s sep).2.1.length+sep.length<=s.length:=by
 unfold Lib.cut at *;split at h
 ·rename_i h0
  rw [if_pos h0];have:=Lib.index_room s sep h0
  simp only [y35q];omega
 ·cases h
theorem qaj (s:List UInt8) (sep:List UInt8):(Lib.cut s sep).2.1.length<=s.length/\(Lib.cut s sep).1.length<=s.length:=by
 unfold Lib.cut;split
 ·simp;omega
 ·simp
theorem q9q (w:World) (n:Nat) (a:Addr):(w.drewN n).cell? a=w.cell? a:=rfl
theorem q8q (out a b:List UInt8):Lib.byteCells out++Lib.strCells (⟨a.toArray⟩++⟨b.toArray⟩)=Lib.byteCells (out++(a++b)):=by
 have:(⟨a.toArray⟩++⟨b.toArray⟩:BA)=⟨(a++b).toArray⟩:=by apply ByteArray.ext;simp
 rw [this];show Lib.byteCells out++Lib.byteCells (a++b)=_
 simp [Lib.byteCells]
theorem qpr {T e:TypeId} {B b:Nat} {bs:List Value} {w:World} (h:Lib.IsBuilder T e B b bs w) (n:Nat):Lib.IsBuilder T e B b bs (w.drewN n):=h
theorem qpq {T e:TypeId} {w:World} {_P:Program}:Lib.IsBuilder T e w.heap.size w.heap.size (Lib.byteCells []) (w.alloc (Obj.cells #[Value.pointer none,Value.slice none 0 0] T)):=by refine .inl ⟨Nat.le_refl _,.slice none 0 0,(MapKept.heap_alloc w _).1,World.ownsRow_nil _ _ _ _,?_⟩;simp [Value.ownBlock]
theorem q7s {B:Nat} {a w:World} (h:Below B a w) (n:Nat):Below B a (w.drewN n):=⟨h.os,h.tape,h.output,h.size,h.block⟩
theorem q7q (w:World) (o:Obj):Below w.heap.size w (w.alloc o):=(Below.refl _ w).alloc (Nat.le_refl _) o
theorem q1hl (r:List UInt8):(⟨r.toArray⟩:BA).extract 0 (min (r.length:Int) 4000).toNat=⟨(r.take 4000).toArray⟩:=by
 have e:(min (r.length:Int) 4000).toNat=min r.length 4000:=by omega
 rw [e];apply ByteArray.ext;rw [ByteArray.data_extract];simp;omega
set_option maxHeartbeats 4000000 in
set_option maxRecDepth 100000 in
theorem qho (g b n:Nat) (m:Int) (l:List (BA×BA)) (s:BA) (w:World) (r:List UInt8) (hs:s.size<4294967281) (hm:w.cell? ⟨0,0,none⟩=some (.int .i64 m)) (hg:w.cell? ⟨g,6,none⟩=some (.map (some b)))
  (hown:w.ownsMap Tryz.prog 9 (RM Tryz.prog 9) b n (datM l)) (h:expF l (s.size+1) s.data.toList []=some r) :
  Calls Tryz.prog 92 #[.pointer (some ⟨g,0,none⟩),.string s] w λe w'=>e=.returned (.string ⟨(r.take 4000).toArray⟩)/\Below w.heap.size w w':=by
 have hu:Tryz.prog.underlying 114=some (.map 9 9):=Tryz.underlying114;have hbel0:=Below.refl w.heap.size w
 go_enter Tryz.func92,Tryz.ntmps92
 go_wp2
 go_loopw [1] (λu1 wr=>∃ (sb:BA) (out:List UInt8) (k:Nat),u1=.string sb/\sb.size<4294967281/\Lib.IsBuilder 138 5 w.heap.size w.heap.size (Lib.byteCells out) wr/\Below w.heap.size w wr/\w.heap.size<=wr.heap.size/\expF l k sb.data.toList out=some r)
  (λu1 _=>(strV u1).size)
 case atStart =>
  refine ⟨s,[],s.size+1,rfl,hs,?_,?_,?_,h⟩
  ·exact qpq (_P:=Tryz.prog)
  ·exact q7q _ _
  ·exact (q7q _ _).size
 case round =>
  obtain ⟨sb,out,k,rfl,hsb,hB,hbel,hsz,hexp⟩:=hrel;cases k with
  |zero=>cases hexp
  |succ k =>
  have hmw:wr.cell? ⟨0,0,none⟩=some (.int .i64 m):=by rw [hbel.cell (q9s hm)];exact hm
  have hgw:wr.cell? ⟨g,6,none⟩=some (.map (some b)):=by rw [hbel.cell (q9s hg)];exact hg
  have how:wr.ownsMap Tryz.prog 9 (RM Tryz.prog 9) b n (datM l):=qwk hown (hbel.block b hown.lt);rw [expF] at hexp;rcases e1:Lib.cut sb.data.toList [36,123] with ⟨a1,r1,k1⟩
  have q1:=qaj sb.data.toList [36,123];have q2:=qai sb.data.toList [36,123]
  rw [e1] at hexp q1 q2;simp only at hexp q1 q2;rcases e2:Lib.cut r1 [125] with ⟨a2,r2,k2⟩
  have q3:=qaj r1 [125];have q4:=qai r1 [125]
  rw [e2] at hexp q3 q4;simp only at hexp q3 q4;have hsl:sb.data.toList.length=sb.size:=by rw [x24q];rfl
  rw [hsl] at q1 q2;have hr1:(⟨r1.toArray⟩:BA).size<4294967281:=by show r1.toArray.size<_;rw [y41q];omega
  have hm1:∀ n,(wr.drewN n).cell? ⟨0,0,none⟩=some (.int .i64 m):=λn=>(q9q wr n _).trans hmw;have how2:∀ n1,(wr.drewN n1).ownsMap Tryz.prog 9 (RM Tryz.prog 9) b n (datM l):=λn1=>qwk how rfl
  have hB2:∀ n1,Lib.IsBuilder 138 5 w.heap.size w.heap.size (Lib.byteCells out) (wr.drewN n1):=λn1=>qpr hB n1;have hsz2:∀ n1,w.heap.size<=(wr.drewN n1).heap.size:=λ_=>hsz
  have hg2:∀ n1,(wr.drewN n1).cell? ⟨g,6,none⟩=some (.map (some b)):=λ_=>hgw;have hb2:∀ n1,Below w.heap.size w (wr.drewN n1):=λn1=>q7s hbel n1
  have hbl0:(Lib.byteCells out).length=out.length:=by simp [Lib.byteCells]
  have e1':Lib.cut sb.data.toList (⟨#[36,123]⟩:BA).data.toList=(a1,r1,k1):=e1;have e2':Lib.cut (⟨r1.toArray⟩:BA).data.toList (⟨#[125]⟩:BA).data.toList=(a2,r2,k2):=e2
  by_cases hgo:k1=true/\k2=true
  ·obtain ⟨rfl,rfl⟩:=hgo
   rw [if_neg (by simp)] at hexp
   split at hexp
   case isFalse=>cases hexp
   rename_i hlen;have hlen':(Lib.byteCells out).length+(⟨a1.toArray⟩++⟨(getM l a2).toArray⟩:BA).size<=140737488355328:=by
    rw [hbl0,ByteArray.size_append];show out.length+(a1.toArray.size+(getM l a2).toArray.size)<=_
    rw [y41q,y41q];exact hlen
   go_wp2_with (first
    |(go_at_call 125;refine (qah _ _ m _ (by first|with_reducible exact hsb|with_reducible exact hr1) (by first|with_reducible exact hmw|with_reducible exact hm1 _)).mono ?_;rintro e w2 ⟨rfl,n1,rfl⟩;simp only [e1',e2'])
    |(at_lookup;refine q1jl _ rfl _ _ 114 rfl 9 hu Tryz.underlying9 (Tryz.zeroValue9 _) b n l rfl (how2 _) ⟨a2.toArray⟩ rfl (by show a2.toArray.size<=_;rw [y41q];unfold maxLen;omega) ?_)
    |(go_at_call 85;refine (q1jv w.heap.size w.heap.size (Lib.byteCells out) _ _ (hB2 _) hlen' (hsz2 _)).mono ?_;rintro e w4 ⟨rfl,hBA,hbl⟩)
    |go_in)
   go_roundw
   case rel=>exact ⟨⟨r2.toArray⟩,out++(a1++getM l a2),k,rfl,by show r2.toArray.size<_;rw [y41q];omega,by rw [←q8q];exact .inr hBA,(hb2 _).trans hbl,Nat.le_trans hsz hbl.size,hexp⟩
   case measure =>
    have z1:=q2 trivial;have z2:=q4 trivial
    show r2.toArray.size<sb.size;rw [y41q];simp only [x9q,x8q] at z1 z2;omega
  ·have hstop:k1=false∨k2=false:=by
    cases k1 <;> cases k2 <;> simp at hgo ⊢
   rw [if_pos hstop] at hexp;split at hexp
   case isFalse=>cases hexp
   rename_i hlen;injection hexp with hexp
   have hlen':(Lib.byteCells out).length+sb.size<=140737488355328:=by rw [hbl0,←hsl];exact hlen
   have hap:Lib.byteCells out++Lib.strCells sb=Lib.byteCells (out++sb.data.toList):=by show Lib.byteCells out++Lib.byteCells sb.data.toList=_;simp [Lib.byteCells]
   have hfin:(⟨r.toArray⟩:BA).extract 0 (min (r.length:Int) 4000).toNat=⟨(r.take 4000).toArray⟩:=q1hl r;rcases hstop with rfl|rfl
   ·go_wp2_with (first
     |(go_at_call 125;refine (qah _ _ m _ (by first|with_reducible exact hsb|with_reducible exact hr1) (by first|with_reducible exact hmw|with_reducible exact hm1 _)).mono ?_;rintro e w2 ⟨rfl,n1,rfl⟩;simp only [e1',e2'])
     |(go_at_call 85;refine (q1jv w.heap.size w.heap.size (Lib.byteCells out) _ _ (hB2 _) hlen' (hsz2 _)).mono ?_;rintro e w4 ⟨rfl,hBA,hbl⟩;rw [hap] at hBA;have hsz4:=Nat.le_trans hsz hbl.size;have hw4:=(hb2 _).trans hbl)
     |(go_at_call 86;refine (q8e w.heap.size w.heap.size (out++sb.data.toList) _ (.inr hBA) hsz4).mono ?_;rintro e w5 ⟨rfl,hbl5⟩)
     |go_in)
    all_goals (go_ret;exact ⟨by rw [←hfin];rfl,hw4.trans hbl5⟩)
   ·go_wp2_with (first
     |(go_at_call 125;refine (qah _ _ m _ (by first|with_reducible exact hsb|with_reducible exact hr1) (by first|with_reducible exact hmw|with_reducible exact hm1 _)).mono ?_;rintro e w2 ⟨rfl,n1,rfl⟩;simp only [e1',e2'])
     |(go_at_call 85;refine (q1jv w.heap.size w.heap.size (Lib.byteCells out) _ _ (hB2 _) hlen' (hsz2 _)).mono ?_;rintro e w4 ⟨rfl,hBA,hbl⟩;rw [hap] at hBA;have hsz4:=Nat.le_trans hsz hbl.size;have hw4:=(hb2 _).trans hbl)
     |(go_at_call 86;refine (q8e w.heap.size w.heap.size (out++sb.data.toList) _ (.inr hBA) hsz4).mono ?_;rintro e w5 ⟨rfl,hbl5⟩)
     |go_in)
    all_goals (go_ret;exact ⟨by rw [←hfin];rfl,hw4.trans hbl5⟩)
end Go.Proofs.YtmlcmoaonaomfaaGreatDoor
namespace Go.Proofs.YtmlcmoaonaomfaaGreatDoor
open Go.RowKit
set_option maxRecDepth 100000
theorem disable (w:World):(callFunc 214 #[]).run Tryz.prog w=.ok (.value (.tuple #[])) w:=run_call_mark0 Tryz.func214 (by kernel_rfl) (by kernel_rfl) (by kernel_rfl) .disable (by kernel_rfl) w
theorem enable (w:World):(callFunc 216 #[]).run Tryz.prog w=.ok (.value (.tuple #[])) w:=run_call_mark0 Tryz.func216 (by kernel_rfl) (by kernel_rfl) (by kernel_rfl) .enable (by kernel_rfl) w
theorem acquire (a:Addr) (w:World):(callFunc 217 #[.pointer (some a)]).run Tryz.prog w=.ok (.value (.tuple #[])) w:=run_call_marked Tryz.func217 (by kernel_rfl) (by kernel_rfl) (by kernel_rfl) .acquire (by kernel_rfl) a w
theorem releaseMerge (a:Addr) (w:World):(callFunc 219 #[.pointer (some a)]).run Tryz.prog w=.ok (.value (.tuple #[])) w:=run_call_marked Tryz.func219 (by kernel_rfl) (by kernel_rfl) (by kernel_rfl) .releaseMerge (by kernel_rfl) a w
theorem q1dy (a:Addr) (x:Value) (u:FrameMode) (w:World) (hc:w.cell? a=some x) (hz:w.frozen? a=false) :
  CallsD Tryz.prog 171 #[.pointer (some a),.bool true] u w λe u' w'=>u'=u/\(e=.returned (.tuple #[])/\w'=w.drew.setCell a (.int .u32 1)):=by
 have hc':w.drew.cell? a=some x:=by go_simp
 have hz':w.drew.frozen? a=false:=by go_simp
 have hst:=run_call_store (P:=Tryz.prog) Tryz.func199 (by kernel_rfl) (by kernel_rfl) (by kernel_rfl) (by kernel_rfl) (k:=.u32) (y:=1) hc' hz'
 go_enter_d Tryz.func171,Tryz.ntmps171
 go_wp2
 go_region_calls
 all_goals (go_end0;exact ⟨rfl,rfl⟩)
theorem iunlock (a:Addr) (w:World) (hc:w.cell? a=some (.int .i32 1)) (hz:w.frozen? a=false) :
  Calls Tryz.prog 198 #[.pointer (some a)] w λe w'=>e=.returned (.tuple #[])/\w'=w.setCell a (.int .i32 0):=by
 have hd:=disable;have he:=enable
 have hr:=releaseMerge;have hadd:=run_call_add (P:=Tryz.prog) Tryz.func220 (by kernel_rfl) (by kernel_rfl) (by kernel_rfl) .i32 (by kernel_rfl) (y:=-1) (s:=0) hc hz (by simp [go_sem];rfl)
 have hcv:=run_convert_to_unsafe (P:=Tryz.prog) (src:=287) (dst:=201) Tryz.underlying287 Tryz.underlying201 (by kernel_rfl) hc
 go_enter Tryz.func198,Tryz.ntmps198
 go_wp2
 go_end0
 go_wp2
 all_goals (go_end0;exact ⟨rfl,rfl⟩)
theorem q1iq (a:Addr) (u:FrameMode) (w:World) (hc:w.cell? a=some (.int .i32 1)) (hz:w.frozen? a=false) :
  CallsD Tryz.prog 170 #[.pointer (some a)] u w λe u' w'=>u'=u/\(e=.returned (.tuple #[])/\w'=w.setCell a (.int .i32 0)):=by
 go_enter_d Tryz.func170,Tryz.ntmps170
 go_wp2_with (go_at_call 198;refine (iunlock a _ hc hz).mono ?_;rintro e w' ⟨rfl,rfl⟩)
 go_end0
 exact ⟨rfl,rfl⟩
theorem ilock (a:Addr) (w:World) (hc:w.cell? a=some (.int .i32 0)) (hz:w.frozen? a=false) :
  Calls Tryz.prog 197 #[.pointer (some a)] w λe w'=>e=.returned (.tuple #[])/\w'=w.setCell a (.int .i32 1):=by
 have hd:=disable;have he:=enable
 have ha:=acquire;have hcas:=run_call_cas_hit (P:=Tryz.prog) Tryz.func215 (by kernel_rfl) (by kernel_rfl) (by kernel_rfl) .i32 (by kernel_rfl) (y:=1) hc hz
 have hc':(w.setCell a (.int .i32 1)).cell? a=some (.int .i32 1):=World.cell?_setCell_same w a _ hc;have hcv:=run_convert_to_unsafe (P:=Tryz.prog) (src:=287) (dst:=201) Tryz.underlying287 Tryz.underlying201 (by kernel_rfl) hc'
 go_enter Tryz.func197,Tryz.ntmps197
 go_wp2
 first|go_end0|(simp only [Exit.inBlock,Exit.then];refine bodyPost_ret (results_none rfl _ _ _) rfl ?_)|refine bodyPost_ret (results_none rfl _ _ _) rfl ?_
 go_wp2
 all_goals (go_end0;exact ⟨rfl,rfl⟩)
theorem qs6 (a:Addr) (w:World) (hc:w.cell? a=some (.int .i32 0)) (hz:w.frozen? a=false) :
  Calls Tryz.prog 169 #[.pointer (some a)] w λe w'=>e=.returned (.tuple #[])/\w'=w.setCell a (.int .i32 1):=by
 go_enter Tryz.func169,Tryz.ntmps169
 go_wp2_with (go_at_call 197;refine (ilock a _ hc hz).mono ?_;rintro e w' ⟨rfl,rfl⟩)
 go_end0
 exact ⟨rfl,rfl⟩
set_option maxRecDepth 100000
theorem q3z:Tryz.zeroCells240.all (·.oneCell')=true:=by kernel_rfl
theorem q1dz (w:World) (X:Obj) (g n c:Nat):(storeCells ⟨w.heap.size+1,0,none⟩ (Tryz.zeroCells240.toList.set 256 (.slice (some ⟨g,0,none⟩) n c))).run Tryz.prog ((w.alloc X).alloc (.cells Tryz.zeroCells240 240))=.ok () ((w.alloc X).alloc (.cells (Tryz.zeroCells240.setIfInBounds 256 (.slice (some ⟨g,0,none⟩) n c)) 240)):=by
 have h:=run_storeCells_new (P:=Tryz.prog) (w.alloc X) 240 Tryz.zeroCells240 (Tryz.zeroCells240.setIfInBounds 256 (.slice (some ⟨g,0,none⟩) n c)) (by rw [y46q];kernel_rfl) (by simp) (by
  rw [Array.all_eq_true'];intro x hx;rcases Array.mem_or_eq_of_mem_setIfInBounds hx with h|h
  ·exact (Array.all_eq_true'.1 q3z) x h
  ·rw [h];rfl)
 rw [Array.toList_setIfInBounds] at h;simpa using h
theorem q1ki:Tryz.zeroCells240.size=257:=by kernel_rfl
theorem zc_at (v:Value) (j:Nat) (h:j<256):(Tryz.zeroCells240.setIfInBounds 256 v)[j]?=some (.slice none 0 0):=by
 rw [y11q (by omega)]
 have:∀ j,j<256->Tryz.zeroCells240[j]?=some (.slice none 0 0):=by
  have h:((List.range 256).all λj=>match Tryz.zeroCells240[j]? with|some (.slice none 0 0)=>true|_=>false)=true:=by kernel_rfl
  intro j hj;have:=y31q.1 h j (List.mem_range.2 hj)
  split at this
  ·assumption
  ·cases this
 exact this j h
theorem q1kh (w:World) (X:Obj) (v:Value) (j:Nat) (h:j<256):((w.alloc X).alloc (.cells (Tryz.zeroCells240.setIfInBounds 256 v) 240)).cell? ⟨w.heap.size+1,j,none⟩=some (.slice none 0 0):=by
 have:(w.alloc X).heap.size=w.heap.size+1:=by simp
 have h2:=World.cell?_alloc_new (w.alloc X) (Tryz.zeroCells240.setIfInBounds 256 v) 240 j;rw [this] at h2;rw [h2,zc_at v j h]
theorem qac (W:World) (q:Nat) (b:UInt8) (hc:W.cell? ⟨q,0,none⟩=some (.int .u8 b.toNat)):(convert 26 9 (.slice (some ⟨q,0,none⟩) 1 1)).run Tryz.prog W=.ok (.string ⟨#[b]⟩) W :=
 run_convert_bytes_back W 26 9 5 ⟨q,0,none⟩ 1 [b] Tryz.underlying26 Tryz.underlying5 Tryz.underlying9 (λj hj=>by
  have:j=0:=by simpa using hj
  subst this;exact hc)
theorem qad {W:World} {s:BA} {A:Result Value->Prop} (h:∀ cap,A (.ok (.slice (some ⟨W.heap.size,0,none⟩) s.size cap) (W.drew.alloc (.cells (bytesRow s cap) 5 ((bytesRow s cap).size,(bytesRow s cap).size+1))))):A ((convert 9 26 (.string s)).run Tryz.prog W):=by rw [run_bytes_of_string (P:=Tryz.prog) W 9 26 5 s Tryz.underlying9 Tryz.underlying26 Tryz.underlying5];exact h _
theorem old5 (w:World) (A B C D E:Obj) (g j:Nat) (hg:g<w.heap.size):(((((w.alloc A).alloc B).alloc C).alloc D).alloc E).drew.cell? ⟨g,j,none⟩=w.cell? ⟨g,j,none⟩:=by
 rw [World.cell?_drew];have h1:∀ (w:World) (X:Obj),g<w.heap.size->(w.alloc X).cell? ⟨g,j,none⟩=w.cell? ⟨g,j,none⟩/\g<(w.alloc X).heap.size:=λw X h=>⟨World.cell?_alloc_past _ _ _ h,by simp;omega⟩
 obtain ⟨a1,b1⟩:=h1 w A hg;obtain ⟨a2,b2⟩:=h1 _ B b1;obtain ⟨a3,b3⟩:=h1 _ C b2;obtain ⟨a4,b4⟩:=h1 _ D b3;obtain ⟨a5,b5⟩:=h1 _ E b4;rw [a5,a4,a3,a2,a1]
theorem zc5 (w:World) (A C D E:Obj) (v1 v2:Value):(((((w.alloc A).alloc (.cells ((Tryz.zeroCells240.setIfInBounds 256 v1).setIfInBounds 34 v2) 240)).alloc C).alloc D).alloc E).drew.cell? ⟨w.heap.size+1,92,none⟩=some (.slice none 0 0):=by
 rw [World.cell?_drew];have hs:(w.alloc A).heap.size=w.heap.size+1:=by simp
 have h0:((w.alloc A).alloc (.cells ((Tryz.zeroCells240.setIfInBounds 256 v1).setIfInBounds 34 v2) 240)).cell? ⟨w.heap.size+1,92,none⟩=some (.slice none 0 0):=by have h2:=World.cell?_alloc_new (w.alloc A) ((Tryz.zeroCells240.setIfInBounds 256 v1).setIfInBounds 34 v2) 240 92;rw [hs] at h2;rw [h2,y11q (by omega),zc_at v1 92 (by decide)]
 have h1:∀ (W:World) (X:Obj),w.heap.size+1<W.heap.size->(W.alloc X).cell? ⟨w.heap.size+1,92,none⟩=W.cell? ⟨w.heap.size+1,92,none⟩/\w.heap.size+1<(W.alloc X).heap.size:=λW X h=>⟨World.cell?_alloc_past _ _ _ h,by simp;omega⟩
 obtain ⟨a3,b3⟩:=h1 ((w.alloc A).alloc (.cells ((Tryz.zeroCells240.setIfInBounds 256 v1).setIfInBounds 34 v2) 240)) C (by simp)
 obtain ⟨a4,b4⟩:=h1 _ D b3;obtain ⟨a5,b5⟩:=h1 _ E b4;rw [a5,a4,a3,h0]
structure Rpl (lo:Nat) (w:World) (N q r1 r2 c1 c2:Nat):Prop where
 lN:lo<=N
 lq:lo<=q
 l1:lo<=r1
 l2:lo<=r2
 all:w.cell? ⟨N,256,none⟩=some (.slice (some ⟨q,0,none⟩) 2 2)
 q0:w.cell? ⟨q,0,none⟩=some (.string ⟨#[34]⟩)
 q1:w.cell? ⟨q,1,none⟩=some (.string ⟨#[92]⟩)
 no:∀ j,j<256->j≠34->j≠92->w.cell? ⟨N,j,none⟩=some (.slice none 0 0)
 s34:w.cell? ⟨N,34,none⟩=some (.slice (some ⟨r1,0,none⟩) 2 c1)
 s92:w.cell? ⟨N,92,none⟩=some (.slice (some ⟨r2,0,none⟩) 2 c2)
 a0:w.cell? ⟨r1,0,none⟩=some (.int .u8 92)
 a1:w.cell? ⟨r1,1,none⟩=some (.int .u8 34)
 b0:w.cell? ⟨r2,0,none⟩=some (.int .u8 92)
 b1:w.cell? ⟨r2,1,none⟩=some (.int .u8 92)
theorem heap8 (w:World) (A B C D E F G H:Obj) :
  ((((((((((w.alloc A).alloc B).alloc C).alloc D).alloc E).alloc F).alloc G).alloc H).drew).drew).heap[w.heap.size]?=some A /\
  ((((((((((w.alloc A).alloc B).alloc C).alloc D).alloc E).alloc F).alloc G).alloc H).drew).drew).heap[w.heap.size+1]?=some B /\
  ((((((((((w.alloc A).alloc B).alloc C).alloc D).alloc E).alloc F).alloc G).alloc H).drew).drew).heap[w.heap.size+1+1+1+1]?=some E /\
  ((((((((((w.alloc A).alloc B).alloc C).alloc D).alloc E).alloc F).alloc G).alloc H).drew).drew).heap[w.heap.size+1+1+1+1+1+1+1]?=some H:=by
 have hd:∀ W:World,W.drew.heap=W.heap:=λ_=>rfl;have hn:∀ (W:World) (X:Obj),(W.alloc X).heap[W.heap.size]?=some X:=λW X=>by show (W.heap.push X)[W.heap.size]?=_;simp
 have hs:∀ (W:World) (X:Obj),(W.alloc X).heap.size=W.heap.size+1:=λW X=>by show (W.heap.push X).size=_;simp
 have ho:∀ (W:World) (X:Obj) k,k<W.heap.size->(W.alloc X).heap[k]?=W.heap[k]?:=λW X k h=>Below.heap_alloc W X k h;simp only [hd];refine ⟨?_,?_,?_,?_⟩
 ·rw [ho _ _ _ (by simp only [hs];omega),ho _ _ _ (by simp only [hs];omega),ho _ _ _ (by simp only [hs];omega),ho _ _ _ (by simp only [hs];omega),ho _ _ _ (by simp only [hs];omega),ho _ _ _ (by simp only [hs];omega),ho _ _ _ (by simp only [hs];omega),hn]
 ·rw [ho _ _ _ (by simp only [hs];omega),ho _ _ _ (by simp only [hs];omega),ho _ _ _ (by simp only [hs];omega),ho _ _ _ (by simp only [hs];omega),ho _ _ _ (by simp only [hs];omega),ho _ _ _ (by simp only [hs];omega),←hs w A,hn]
 ·rw [ho _ _ _ (by simp only [hs];omega),ho _ _ _ (by simp only [hs];omega),ho _ _ _ (by simp only [hs];omega),←hs w A,←hs (w.alloc A) B,←hs _ C,←hs _ D,hn]
 ·rw [←hs w A,←hs (w.alloc A) B,←hs _ C,←hs _ D,←hs _ E,←hs _ F,←hs _ G,hn]
theorem row2 (s:BA) (c:Nat) (j:Nat) (h:j<s.size):(bytesRow s c)[j]?=some (.int .u8 (s.data.getD j 0).toNat):=by
 have h':j<s.data.size:=h;unfold bytesRow;rw [y23q (by simpa using h')]
 rw [Array.getElem?_map,y3q h',Array.getD,dif_pos h'];rfl
theorem rpl8 (w:World) (cap1 cap2:Nat) (C D F G:Obj) (m1 m2:Nat×Nat):Rpl w.heap.size ((((((((((w.alloc (.cells #[.string ⟨#[34]⟩,.string ⟨#[92]⟩] 9)).alloc (.cells (((Tryz.zeroCells240.setIfInBounds 256 (.slice (some ⟨w.heap.size,0,none⟩) 2 2)).setIfInBounds 34 (.slice (some ⟨w.heap.size+1+1+1+1,0,none⟩) 2 cap1)).setIfInBounds 92 (.slice (some ⟨w.heap.size+1+1+1+1+1+1+1,0,none⟩) 2 cap2)) 240)).alloc C).alloc D).alloc (.cells (bytesRow ⟨#[92,34]⟩ cap1) 5 m1)).alloc F).alloc G).alloc (.cells (bytesRow ⟨#[92,92]⟩ cap2) 5 m2)).drew).drew) (w.heap.size+1) w.heap.size (w.heap.size+1+1+1+1) (w.heap.size+1+1+1+1+1+1+1) cap1 cap2:=by
 obtain ⟨h1,h2,h5,h8⟩:=heap8 w (.cells #[.string ⟨#[34]⟩,.string ⟨#[92]⟩] 9) (.cells (((Tryz.zeroCells240.setIfInBounds 256 (.slice (some ⟨w.heap.size,0,none⟩) 2 2)).setIfInBounds 34 (.slice (some ⟨w.heap.size+1+1+1+1,0,none⟩) 2 cap1)).setIfInBounds 92 (.slice (some ⟨w.heap.size+1+1+1+1+1+1+1,0,none⟩) 2 cap2)) 240) C D (.cells (bytesRow ⟨#[92,34]⟩ cap1) 5 m1) F G (.cells (bytesRow ⟨#[92,92]⟩ cap2) 5 m2);have hz:=q1ki
 refine ⟨by omega,by omega,by omega,by omega,?_,?_,?_,λj h a b=>?_,?_,?_,?_,?_,?_,?_⟩
 ·simp only [World.cell?,h2]
  rw [y11q (by omega),y11q (by omega),y27q (by omega)]
  rfl
 ·simp only [World.cell?,h1];rfl
 ·simp only [World.cell?,h1];rfl
 ·simp only [World.cell?,h2]
  rw [y11q (by omega),y11q (by omega)]
  exact zc_at _ j h
 ·simp only [World.cell?,h2]
  rw [y11q (by omega),y27q (by simp only [y46q];omega)]
  rfl
 ·simp only [World.cell?,h2]
  rw [y27q (by simp only [y46q];omega)]
  rfl
 ·simp only [World.cell?,h5];exact row2 _ _ 0 (by decide)
 ·simp only [World.cell?,h5];exact row2 _ _ 1 (by decide)
 ·simp only [World.cell?,h8];exact row2 _ _ 0 (by decide)
 ·simp only [World.cell?,h8];exact row2 _ _ 1 (by decide)
set_option maxHeartbeats 4000000 in
theorem q8k (b g c:Nat) (_hc:4<=c) (w:World) (h4:w.cell? ⟨b,4,none⟩=some (.slice (some ⟨g,0,none⟩) 4 c)) (hc0:w.cell? ⟨g,0,none⟩=some (.string ⟨#[92]⟩)) (hc1:w.cell? ⟨g,1,none⟩=some (.string ⟨#[92,92]⟩)) (hc2:w.cell? ⟨g,2,none⟩=some (.string ⟨#[34]⟩)) (hc3:w.cell? ⟨g,3,none⟩=some (.string ⟨#[92,34]⟩)) :
  Calls Tryz.prog 150 #[.pointer (some ⟨b,0,none⟩)] w λe w'=>∃ N q r1 r2 c1 c2,e=.returned (.iface 241 (.pointer (some ⟨N,0,none⟩)))/\Rpl w.heap.size w' N q r1 r2 c1 c2/\Below w.heap.size w w':=by
 have hmk:∀ w:World,(Instr.makeSlice 32 (.int .i64 0) (.int .i64 2)).run Tryz.prog w=.ok (.slice (some ⟨w.heap.size,0,none⟩) 0 2) (w.alloc (.cells #[.string ⟨#[]⟩,.string ⟨#[]⟩] 9)):=λ_=>by kernel_rfl
 have hst:=q1dz;have hnil:=λ(w:World) a l c=>Lib.run_eql_slice_nil (P:=Tryz.prog) w 26 5 a l c 0 0 Tryz.underlying26
 have e34:∀ h,(((⟨#[34]⟩:BA)[0]'h).toNat:Int)=34:=λ_=>rfl;have e92:∀ h,(((⟨#[92]⟩:BA)[0]'h).toNat:Int)=92:=λ_=>rfl
 have hz34:=λX v=>q1kh w X v 34 (by decide)
 have hg:=Lib.lt_of_cell hc0;have hO0:=λA B C D E=>(old5 w A B C D E g 0 hg).trans hc0
 have hO1:=λA B C D E=>(old5 w A B C D E g 1 hg).trans hc1;have hO92:=zc5 w
 go_enter Tryz.func150,Tryz.ntmps150
 go_wp2
 refine wp_loop_rounds 3 ?_;rw [rounds_succ]
 go_wp2
 rw [rounds_succ]
 go_wp2
 rw [rounds_succ]
 go_wp2
 refine wp_loop_rounds 3 ?_;rw [rounds_succ]
 go_wp2
 rw [qac _ _ 34 (by go_simp)]
 go_wp2
 refine qad (A:=λR=>Oper.upon _ _ _ _ _ (R.andThen _)) λcap1=>?_
 go_wp2
 rw [rounds_succ]
 go_wp2
 rw [qac _ _ 92 (by go_simp)]
 go_wp2
 refine qad (A:=λR=>Oper.upon _ _ _ _ _ (R.andThen _)) λcap2=>?_
 go_wp2
 rw [rounds_succ]
 go_wp2
 go_ret
 have hb:∀ (W:World) (X:Obj),Below w.heap.size w W->Below w.heap.size w (W.alloc X):=λW X h=>h.alloc h.size X;exact ⟨_,_,_,_,_,_,rfl,rpl8 w cap1 cap2 _ _ _ _ _ _,(hb _ _ (hb _ _ (hb _ _ (hb _ _ (hb _ _ (hb _ _ (hb _ _ (hb _ _ (Below.refl _ w))))))))).drew.drew⟩
set_option maxRecDepth 100000
structure Raw (w:World) (b g c:Nat):Prop where
 hc:4<=c
 hb:b<w.heap.size
 d0:w.cell? ⟨b,0,none⟩=some (.int .u32 0)
 d1:w.cell? ⟨b,1,none⟩=some (.int .i32 0)
 d3:∃ x,w.cell? ⟨b,3,none⟩=some x
 d4:w.cell? ⟨b,4,none⟩=some (.slice (some ⟨g,0,none⟩) 4 c)
 f:∀ j,w.frozen? ⟨b,j,none⟩=false
 g0:w.cell? ⟨g,0,none⟩=some (.string ⟨#[92]⟩)
 g1:w.cell? ⟨g,1,none⟩=some (.string ⟨#[92,92]⟩)
 g2:w.cell? ⟨g,2,none⟩=some (.string ⟨#[34]⟩)
 g3:w.cell? ⟨g,3,none⟩=some (.string ⟨#[92,34]⟩)
 ne:g≠b
theorem q8i (b g c:Nat) (hc:4<=c) (w:World) (hb:b<w.heap.size) (x3:Value) (h3:w.cell? ⟨b,3,none⟩=some x3) (h4:w.cell? ⟨b,4,none⟩=some (.slice (some ⟨g,0,none⟩) 4 c)) (f3:w.frozen? ⟨b,3,none⟩=false) (f4:w.frozen? ⟨b,4,none⟩=false)
  (hc0:w.cell? ⟨g,0,none⟩=some (.string ⟨#[92]⟩)) (hc1:w.cell? ⟨g,1,none⟩=some (.string ⟨#[92,92]⟩)) (hc2:w.cell? ⟨g,2,none⟩=some (.string ⟨#[34]⟩)) (hc3:w.cell? ⟨g,3,none⟩=some (.string ⟨#[92,34]⟩)) :
  Calls Tryz.prog 132 #[.pointer (some ⟨b,0,none⟩)] w λe w'=>∃ N q r1 r2 c1 c2 W1,e=.returned (.tuple #[])/\Rpl w.heap.size W1 N q r1 r2 c1 c2/\Below w.heap.size w W1/\w'=(W1.setCell ⟨b,3,none⟩ (.iface 241 (.pointer (some ⟨N,0,none⟩)))).setCell ⟨b,4,none⟩ (.slice none 0 0):=by
 go_enter Tryz.func132,Tryz.ntmps132
 go_wp2_with (go_at_call 150;refine (q8k b g c hc _ h4 hc0 hc1 hc2 hc3).mono ?_;rintro e W1 ⟨N,q,r1,r2,c1,c2,rfl,hR,hB⟩;have h3':W1.cell? ⟨b,3,none⟩=some x3:=(hB.cell hb).trans h3;have h4':W1.cell? ⟨b,4,none⟩=some (.slice (some ⟨g,0,none⟩) 4 c):=(hB.cell hb).trans h4;have f3':W1.frozen? ⟨b,3,none⟩=false:=(hB.frozen hb).trans f3;have f4':W1.frozen? ⟨b,4,none⟩=false:=(hB.frozen hb).trans f4)
 go_end0
 exact ⟨N,q,r1,r2,c1,c2,W1,rfl,hR,hB,rfl⟩
structure Built (w:World) (b:Nat) (w':World):Prop where
 ex:∃ N q r1 r2 c1 c2,Rpl w.heap.size w' N q r1 r2 c1 c2/\w'.cell? ⟨b,3,none⟩=some (.iface 241 (.pointer (some ⟨N,0,none⟩)))
 os:w'.os=w.os
 tape:w'.tape=w.tape
 output:w'.output=w.output
 size:w.heap.size<=w'.heap.size
 block:∀ k,k<w.heap.size->k≠b->w'.heap[k]?=w.heap[k]?
theorem Rpl.set {lo:Nat} {w:World} {N q r1 r2 c1 c2:Nat} (h:Rpl lo w N q r1 r2 c1 c2) (a:Addr) (ha:a.block<lo) (v:Value):Rpl lo (w.setCell a v) N q r1 r2 c1 c2:=by
 have ho:∀ k j,lo<=k->(w.setCell a v).cell? ⟨k,j,none⟩=w.cell? ⟨k,j,none⟩:=λk j hk=>World.cell?_setCell_other w a ⟨k,j,none⟩ v (λe=>by rw [e] at ha;simp only at ha;omega)
 obtain ⟨l1,l2,l3,l4,a1,a2,a3,a4,a5,a6,a7,a8,a9,a10⟩:=h;exact ⟨l1,l2,l3,l4,(ho _ _ l1).trans a1,(ho _ _ l2).trans a2,(ho _ _ l2).trans a3,λj x y z=>(ho _ _ l1).trans (a4 j x y z),(ho _ _ l1).trans a5,(ho _ _ l1).trans a6,(ho _ _ l3).trans a7,(ho _ _ l3).trans a8,(ho _ _ l4).trans a9,(ho _ _ l4).trans a10⟩
theorem Rpl.drew {lo:Nat} {w:World} {N q r1 r2 c1 c2:Nat} (h:Rpl lo w N q r1 r2 c1 c2):Rpl lo w.drew N q r1 r2 c1 c2:=by have ho:∀ a,w.drew.cell? a=w.cell? a:=λa=>World.cell?_drew w a;obtain ⟨l1,l2,l3,l4,a1,a2,a3,a4,a5,a6,a7,a8,a9,a10⟩:=h;exact ⟨l1,l2,l3,l4,(ho _).trans a1,(ho _).trans a2,(ho _).trans a3,λj x y z=>(ho _).trans (a4 j x y z),(ho _).trans a5,(ho _).trans a6,(ho _).trans a7,(ho _).trans a8,(ho _).trans a9,(ho _).trans a10⟩
set_option maxHeartbeats 1600000 in
theorem q1d4 (b g c:Nat) (w:World) (h:Raw w b g c) :
  Calls Tryz.prog 149 #[.pointer (some ⟨b,0,none⟩),.func (.func 132) #[.pointer (some ⟨b,0,none⟩)] #[]] w λe w'=>e=.returned (.tuple #[])/\Built w b w':=by
 obtain ⟨hc,hb,d0,d1,⟨x3,d3⟩,d4,f,g0,g1,g2,g3,ne⟩:=h;have hs:(w.setCell ⟨b,1,none⟩ (.int .i32 1)).heap.size=w.heap.size:=by simp
 have o:∀ k j,(k≠b∨j≠1)->(w.setCell ⟨b,1,none⟩ (.int .i32 1)).cell? ⟨k,j,none⟩=w.cell? ⟨k,j,none⟩:=λk j hk=>World.cell?_setCell_other w ⟨b,1,none⟩ ⟨k,j,none⟩ _ (λe=>by injection e with e1 e2;rcases hk with h|h <;> omega)
 have hf:∀ a,(w.setCell ⟨b,1,none⟩ (.int .i32 1)).frozen? a=w.frozen? a:=λa=>by go_simp
 have hl:=run_call_load (P:=Tryz.prog) Tryz.func168 (by kernel_rfl) (by kernel_rfl) (by kernel_rfl) .u32 (by kernel_rfl) (w:=w.setCell ⟨b,1,none⟩ (.int .i32 1)) (a:=⟨b,0,none⟩) (x:=0) ((o _ _ (.inr (by decide))).trans d0)
 have hnot:∀ (x:Bool) (w:World),(Op.unary .not (.bool x)).run Tryz.prog w=.ok (.bool (!x)) w:=λ_ _=>rfl
 go_enter_defers Tryz.func149,Tryz.ntmps149
 go_wp2_with (first|(go_at_call 169;refine (qs6 ⟨b,1,none⟩ _ d1 (f 1)).mono ?_;rintro e w' ⟨rfl,rfl⟩)|(go_at_call 132;refine (q8i b g c hc _ (by rw [hs];exact hb) x3 ((o _ _ (.inr (by decide))).trans d3) ((o _ _ (.inr (by decide))).trans d4) ((hf _).trans (f 3)) ((hf _).trans (f 4)) ((o _ _ (.inl ne)).trans g0) ((o _ _ (.inl ne)).trans g1) ((o _ _ (.inl ne)).trans g2) ((o _ _ (.inl ne)).trans g3)).mono ?_;rintro e w' ⟨N,q,r1,r2,c1,c2,W1,rfl,hR,hB,rfl⟩)|(go_at_call 148;go_in))
 rw [hs] at hR hB;have hbb:=hb
 have k1:∀ j,j≠1->W1.cell? ⟨b,j,none⟩=w.cell? ⟨b,j,none⟩:=λj hj=>(hB.cell hb).trans (o _ _ (.inr hj));have k2:W1.cell? ⟨b,1,none⟩=some (.int .i32 1):=(hB.cell hb).trans (World.cell?_setCell_same w ⟨b,1,none⟩ _ d1)
 have k3:∀ j,W1.frozen? ⟨b,j,none⟩=false:=λj=>(hB.frozen hb).trans ((hf _).trans (f j));have so:∀ (W:World) (i j:Nat) v,i≠j->(W.setCell ⟨b,i,none⟩ v).cell? ⟨b,j,none⟩=W.cell? ⟨b,j,none⟩:=λW i j v h=>World.cell?_setCell_other W ⟨b,i,none⟩ ⟨b,j,none⟩ v (λe=>by injection e with _ e2;exact h e2)
 refine leaves_cons (f:=171) (args:=#[.pointer (some ⟨b,0,none⟩),.bool true]) (by simp) (by simp [go_sem]) ?_
 refine (q1dy ⟨b,0,none⟩ (.int .u32 0) .returning _ ?_ (by simp [k3])).mono ?_
 ·exact (so _ 4 0 _ (by decide)).trans ((so _ 3 0 _ (by decide)).trans ((k1 0 (by decide)).trans d0))
 rintro e u' w'' ⟨rfl,rfl,rfl⟩;refine leaves_cons (f:=170) (args:=#[.pointer (some ⟨b,1,none⟩)]) (by simp [settle]) (by simp [go_sem]) ?_
 refine (q1iq ⟨b,1,none⟩ _ _ ?_ (by simp [k3])).mono ?_
 ·refine (so _ 0 1 _ (by decide)).trans ?_
  rw [World.cell?_drew];exact (so _ 4 1 _ (by decide)).trans ((so _ 3 1 _ (by decide)).trans k2)
 rintro e u' w'' ⟨rfl,rfl,rfl⟩;have hB2:Built w b ((((W1.setCell ⟨b,3,none⟩ (.iface 241 (.pointer (some ⟨N,0,none⟩)))).setCell ⟨b,4,none⟩ (.slice none 0 0)).drew.setCell ⟨b,0,none⟩ (.int .u32 1)).setCell ⟨b,1,none⟩ (.int .i32 0)):=by
  have hZ:=(((((((Below.refl 0 w).setCell (p:=⟨b,1,none⟩) (Nat.zero_le _) (.int .i32 1)).trans (hB.mono (Nat.zero_le _))).setCell (p:=⟨b,3,none⟩) (Nat.zero_le _) (.iface 241 (.pointer (some ⟨N,0,none⟩)))).setCell (p:=⟨b,4,none⟩) (Nat.zero_le _) (.slice none 0 0)).drew).setCell (p:=⟨b,0,none⟩) (Nat.zero_le _) (.int .u32 1)).setCell (p:=⟨b,1,none⟩) (Nat.zero_le _) (.int .i32 0);refine ⟨⟨N,q,r1,r2,c1,c2,((((hR.set ⟨b,3,none⟩ hb _).set ⟨b,4,none⟩ hb _).drew).set ⟨b,0,none⟩ hb _).set ⟨b,1,none⟩ hb _,?_⟩,?_,?_,?_,?_,?_⟩
  ·refine (so _ 1 3 _ (by decide)).trans ((so _ 0 3 _ (by decide)).trans ?_)
   rw [World.cell?_drew];exact (so _ 4 3 _ (by decide)).trans (World.cell?_setCell_same W1 ⟨b,3,none⟩ _ ((k1 3 (by decide)).trans d3))
  ·exact hZ.os
  ·exact hZ.tape
  ·exact hZ.output
  ·exact hZ.size
  ·intro k hk hne
   rw [y26q _ _ _ _ hne,y26q _ _ _ _ hne];show ((W1.setCell _ _).setCell _ _).heap[k]?=_
   rw [y26q _ _ _ _ hne,y26q _ _ _ _ hne,hB.block k hk,y26q _ _ _ _ hne]
 simp [Leaves,settle,results,Tryz.results149];exact hB2
end Go.Proofs.YtmlcmoaonaomfaaGreatDoor
