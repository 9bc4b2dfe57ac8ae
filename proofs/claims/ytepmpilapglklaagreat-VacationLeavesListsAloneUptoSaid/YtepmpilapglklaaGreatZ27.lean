/- Contracts of the kit, laid at this program (written by the tool lay-plain and a program of ours): texts and numbers. -/
import Derived.Shelf.Strings.Builder1
import Derived.Shelf.Strings.Builder2
import Derived.Shelf.Small.Utf8
import Derived.Shelf.Small.Strs
import Derived.Shelf.Strings.BuilderF
import Derived.Shelf.Strings.Builder2Cap
import Derived.Shelf.Strings.Search1
import Derived.Shelf.Strings.Search2
import Derived.Shelf.Strings.Search3
import Derived.Shelf.Strings.Cut
import Derived.Shelf.Strings.Count
import Derived.Shelf.LaysM
import Derived.Shelf.Strings.Shaped
import Derived.Shelf.Strings.Prefix
import Derived.Shelf.Strings.Runes
import Derived.Shelf.Strings.IndexAny
import Derived.Shelf.Strings.AsciiSet
import Derived.Shelf.Strings.IndexAnyAll
import Derived.Test.YtepmpilapglklaaGreatZ01
import Derived.Test.YtepmpilapglklaaGreatChecked
import Derived.WalkKit
import Derived.Deep.QuietTactic
import Derived.BigQuiet
import Derived.WalkMore
import Derived.Test.YtepmpilapglklaaGreatGB
import Derived.Deep.LoopGhost
namespace Go.Proofs.YtepmpilapglklaaGreat
open Go.Shelf
set_option maxRecDepth 100000
def q1kp:Go.Shelf.Ren:=⟨fun|144=>100|143=>110|219=>107|217=>97|225=>118|224=>119|267=>120|266=>108|314=>128|n=>n,fun|9=>9|4=>4|3=>3|5=>5|46=>105|146=>164|51=>117|n=>n,fun|1=>0|n=>n⟩
theorem lays144:Go.Proofs.Lays.n144 Tryz.prog q1kp:={
 mixed:=by kernel_rfl
 f143:=Tryz.func110.trans (congrArg some (by kernel_rfl))
 f144:=Tryz.func100.trans (congrArg some (by kernel_rfl))
 f217:=Tryz.func97.trans (congrArg some (by kernel_rfl))
 f219:=Tryz.func107.trans (congrArg some (by kernel_rfl))
 f224:=Tryz.func119.trans (congrArg some (by kernel_rfl))
 f225:=Tryz.func118.trans (congrArg some (by kernel_rfl))
 f266:=Tryz.func108.trans (congrArg some (by kernel_rfl))
 f267:=Tryz.func120.trans (congrArg some (by kernel_rfl))
 f314:=Tryz.func128.trans (congrArg some (by kernel_rfl))
 t3:=Tryz.underlying3
 a3:=Tryz.isAgg3
 z3:=Tryz.sizeOf3
 v3:=Tryz.zeroValue3
 t4:=Tryz.underlying4
 a4:=Tryz.isAgg4
 z4:=Tryz.sizeOf4
 v4:=Tryz.zeroValue4
 t5:=Tryz.underlying5
 a5:=Tryz.isAgg5
 z5:=Tryz.sizeOf5
 v5:=Tryz.zeroValue5
 t9:=Tryz.underlying9
 a9:=Tryz.isAgg9
 z9:=Tryz.sizeOf9
 v9:=Tryz.zeroValue9
 t46:=Tryz.underlying105
 a46:=Tryz.isAgg105
 z46:=Tryz.sizeOf105
 v46:=Tryz.zeroValue105
 t51:=Tryz.underlying117
 a51:=Tryz.isAgg117
 z51:=Tryz.sizeOf117
 v51:=Tryz.zeroValue117
 t146:=Tryz.underlying164
 a146:=Tryz.isAgg164
 z146:=Tryz.sizeOf164
 v146:=Tryz.zeroValue164
 g1:=by kernel_rfl }
def q1kq:Go.Shelf.Ren:=⟨fun|145=>82|220=>96|219=>107|217=>97|225=>118|224=>119|267=>120|266=>108|314=>128|n=>n,fun|9=>9|4=>4|59=>95|3=>3|5=>5|46=>105|146=>164|51=>117|n=>n,fun|1=>0|n=>n⟩
theorem lays145:Go.Proofs.Lays.n145 Tryz.prog q1kq:={
 mixed:=by kernel_rfl
 f145:=Tryz.func82.trans (congrArg some (by kernel_rfl))
 f217:=Tryz.func97.trans (congrArg some (by kernel_rfl))
 f219:=Tryz.func107.trans (congrArg some (by kernel_rfl))
 f220:=Tryz.func96.trans (congrArg some (by kernel_rfl))
 f224:=Tryz.func119.trans (congrArg some (by kernel_rfl))
 f225:=Tryz.func118.trans (congrArg some (by kernel_rfl))
 f266:=Tryz.func108.trans (congrArg some (by kernel_rfl))
 f267:=Tryz.func120.trans (congrArg some (by kernel_rfl))
 f314:=Tryz.func128.trans (congrArg some (by kernel_rfl))
 t3:=Tryz.underlying3
 a3:=Tryz.isAgg3
 z3:=Tryz.sizeOf3
 v3:=Tryz.zeroValue3
 t4:=Tryz.underlying4
 a4:=Tryz.isAgg4
 z4:=Tryz.sizeOf4
 v4:=Tryz.zeroValue4
 t5:=Tryz.underlying5
 a5:=Tryz.isAgg5
 z5:=Tryz.sizeOf5
 v5:=Tryz.zeroValue5
 t9:=Tryz.underlying9
 a9:=Tryz.isAgg9
 z9:=Tryz.sizeOf9
 v9:=Tryz.zeroValue9
 t46:=Tryz.underlying105
 a46:=Tryz.isAgg105
 z46:=Tryz.sizeOf105
 v46:=Tryz.zeroValue105
 t51:=Tryz.underlying117
 a51:=Tryz.isAgg117
 z51:=Tryz.sizeOf117
 v51:=Tryz.zeroValue117
 t59:=Tryz.underlying95
 a59:=Tryz.isAgg95
 z59:=Tryz.sizeOf95
 v59:=Tryz.zeroValue95
 t146:=Tryz.underlying164
 a146:=Tryz.isAgg164
 z146:=Tryz.sizeOf164
 v146:=Tryz.zeroValue164
 g1:=by kernel_rfl }
def qay:Go.Shelf.Ren:=⟨fun|137=>84|217=>97|266=>108|n=>n,fun|9=>9|5=>5|3=>3|n=>n,fun|n=>n⟩
theorem lays137:Go.Proofs.Lays.n137 Tryz.prog qay:={
 mixed:=by kernel_rfl
 f137:=Tryz.func84.trans (congrArg some (by kernel_rfl))
 f217:=Tryz.func97.trans (congrArg some (by kernel_rfl))
 f266:=Tryz.func108.trans (congrArg some (by kernel_rfl))
 t3:=Tryz.underlying3
 a3:=Tryz.isAgg3
 z3:=Tryz.sizeOf3
 v3:=Tryz.zeroValue3
 t5:=Tryz.underlying5
 a5:=Tryz.isAgg5
 z5:=Tryz.sizeOf5
 v5:=Tryz.zeroValue5
 t9:=Tryz.underlying9
 a9:=Tryz.isAgg9
 z9:=Tryz.sizeOf9
 v9:=Tryz.zeroValue9 }
def q1ko:Go.Shelf.Ren:=⟨fun|119=>142|n=>n,fun|21=>21|4=>4|n=>n,fun|n=>n⟩
theorem lays119:Go.Proofs.Lays.n119 Tryz.prog q1ko:={
 mixed:=by kernel_rfl
 f119:=Tryz.func142.trans (congrArg some (by kernel_rfl))
 t4:=Tryz.underlying4
 a4:=Tryz.isAgg4
 z4:=Tryz.sizeOf4
 v4:=Tryz.zeroValue4
 t21:=Tryz.underlying21
 a21:=Tryz.isAgg21
 z21:=Tryz.sizeOf21
 v21:=Tryz.zeroValue21 }
def q1kr:Go.Shelf.Ren:=⟨fun|152=>129|137=>84|119=>142|224=>119|225=>118|217=>97|266=>108|n=>n,fun|9=>9|21=>21|3=>3|4=>4|5=>5|0=>0|46=>105|n=>n,fun|n=>n⟩
theorem lays152:Go.Proofs.Lays.n152 Tryz.prog q1kr:={
 mixed:=by kernel_rfl
 f119:=Tryz.func142.trans (congrArg some (by kernel_rfl))
 f137:=Tryz.func84.trans (congrArg some (by kernel_rfl))
 f152:=Tryz.func129.trans (congrArg some (by kernel_rfl))
 f217:=Tryz.func97.trans (congrArg some (by kernel_rfl))
 f224:=Tryz.func119.trans (congrArg some (by kernel_rfl))
 f225:=Tryz.func118.trans (congrArg some (by kernel_rfl))
 f266:=Tryz.func108.trans (congrArg some (by kernel_rfl))
 t0:=Tryz.underlying0
 a0:=Tryz.isAgg0
 z0:=Tryz.sizeOf0
 v0:=Tryz.zeroValue0
 t3:=Tryz.underlying3
 a3:=Tryz.isAgg3
 z3:=Tryz.sizeOf3
 v3:=Tryz.zeroValue3
 t4:=Tryz.underlying4
 a4:=Tryz.isAgg4
 z4:=Tryz.sizeOf4
 v4:=Tryz.zeroValue4
 t5:=Tryz.underlying5
 a5:=Tryz.isAgg5
 z5:=Tryz.sizeOf5
 v5:=Tryz.zeroValue5
 t9:=Tryz.underlying9
 a9:=Tryz.isAgg9
 z9:=Tryz.sizeOf9
 v9:=Tryz.zeroValue9
 t21:=Tryz.underlying21
 a21:=Tryz.isAgg21
 z21:=Tryz.sizeOf21
 v21:=Tryz.zeroValue21
 t46:=Tryz.underlying105
 a46:=Tryz.isAgg105
 z46:=Tryz.sizeOf105
 v46:=Tryz.zeroValue105 }
def q1ks:Go.Shelf.Ren:=⟨fun|153=>121|152=>129|226=>130|227=>131|228=>132|137=>84|119=>142|224=>119|225=>118|217=>97|266=>108|n=>n,fun|9=>9|3=>3|4=>4|5=>5|21=>21|117=>169|116=>168|0=>0|46=>105|124=>183|n=>n,fun|n=>n⟩
theorem lays153:Go.Proofs.Lays.n153 Tryz.prog q1ks:={
 mixed:=by kernel_rfl
 f119:=Tryz.func142.trans (congrArg some (by kernel_rfl))
 f137:=Tryz.func84.trans (congrArg some (by kernel_rfl))
 f152:=Tryz.func129.trans (congrArg some (by kernel_rfl))
 f153:=Tryz.func121.trans (congrArg some (by kernel_rfl))
 f217:=Tryz.func97.trans (congrArg some (by kernel_rfl))
 f224:=Tryz.func119.trans (congrArg some (by kernel_rfl))
 f225:=Tryz.func118.trans (congrArg some (by kernel_rfl))
 f226:=Tryz.func130.trans (congrArg some (by kernel_rfl))
 f227:=Tryz.func131.trans (congrArg some (by kernel_rfl))
 f228:=Tryz.func132.trans (congrArg some (by kernel_rfl))
 f266:=Tryz.func108.trans (congrArg some (by kernel_rfl))
 t0:=Tryz.underlying0
 a0:=Tryz.isAgg0
 z0:=Tryz.sizeOf0
 v0:=Tryz.zeroValue0
 t3:=Tryz.underlying3
 a3:=Tryz.isAgg3
 z3:=Tryz.sizeOf3
 v3:=Tryz.zeroValue3
 t4:=Tryz.underlying4
 a4:=Tryz.isAgg4
 z4:=Tryz.sizeOf4
 v4:=Tryz.zeroValue4
 t5:=Tryz.underlying5
 a5:=Tryz.isAgg5
 z5:=Tryz.sizeOf5
 v5:=Tryz.zeroValue5
 t9:=Tryz.underlying9
 a9:=Tryz.isAgg9
 z9:=Tryz.sizeOf9
 v9:=Tryz.zeroValue9
 t21:=Tryz.underlying21
 a21:=Tryz.isAgg21
 z21:=Tryz.sizeOf21
 v21:=Tryz.zeroValue21
 t46:=Tryz.underlying105
 a46:=Tryz.isAgg105
 z46:=Tryz.sizeOf105
 v46:=Tryz.zeroValue105
 t116:=Tryz.underlying168
 a116:=Tryz.isAgg168
 z116:=Tryz.sizeOf168
 t117:=Tryz.underlying169
 a117:=Tryz.isAgg169
 z117:=Tryz.sizeOf169
 v117:=Tryz.zeroValue169
 t124:=Tryz.underlying183
 a124:=Tryz.isAgg183
 z124:=Tryz.sizeOf183
 v124:=Tryz.zeroValue183 }
def q1kn:Go.Shelf.Ren:=⟨fun|106=>52|213=>74|265=>90|n=>n,fun|9=>9|3=>3|n=>n,fun|n=>n⟩
theorem lays106:Go.Proofs.Lays.n106 Tryz.prog q1kn:={
 mixed:=by kernel_rfl
 f106:=Tryz.func52.trans (congrArg some (by kernel_rfl))
 f213:=Tryz.func74.trans (congrArg some (by kernel_rfl))
 f265:=Tryz.func90.trans (congrArg some (by kernel_rfl))
 t3:=Tryz.underlying3
 a3:=Tryz.isAgg3
 z3:=Tryz.sizeOf3
 v3:=Tryz.zeroValue3
 t9:=Tryz.underlying9
 a9:=Tryz.isAgg9
 z9:=Tryz.sizeOf9
 v9:=Tryz.zeroValue9 }
end Go.Proofs.YtepmpilapglklaaGreat
namespace Go.Proofs.YtepmpilapglklaaGreat
open Go.RowKit
theorem q1dn (r:Int) (h:128≤r):∃ l:List UInt8,∃ x:UInt8,Utf8.encode r=⟨(l++[x]).toArray⟩∧128≤x.toNat∧1≤l.length∧l.length≤3:=by
 have hc:128≤(if Utf8.valid r then r.toNat else Utf8.runeError)∧(if Utf8.valid r then r.toNat else Utf8.runeError)<2097152:=by
  split
  ·rename_i hv
   unfold Utf8.valid at hv
   simp at hv
   omega
  ·unfold Utf8.runeError;omega
 unfold Utf8.encode
 simp only
 generalize (if Utf8.valid r then r.toNat else Utf8.runeError)=c at hc
 have hb:∀ n,128≤(UInt8.ofNat (128+n % 64)).toNat:=by
  intro n
  rw [UInt8.toNat_ofNat']
  have:n % 64<64:=Nat.mod_lt _ (by decide)
  omega
 rw [if_neg (by omega)]
 split
 ·exact ⟨[_],_,rfl,hb _,by simp,by simp⟩
 ·split
  ·exact ⟨[_,_],_,rfl,hb _,by simp,by simp⟩
  ·exact ⟨[_,_,_],_,rfl,hb _,by simp,by simp⟩
theorem q1d9 (s:ByteArray) (i:Nat) (hi:i<s.size) (h:128≤(s[i]'hi).toNat):128≤(Utf8.decode s i).1∧(Utf8.decode s i).1<2147483648∧1≤(Utf8.decode s i).2∧i+(Utf8.decode s i).2≤s.size∧∀ j (hj:j<s.size),i≤j→j<i+(Utf8.decode s i).2→128≤(s[j]'hj).toNat:=by
 have g:∀ j (hj:j<s.size),s.get! j=s[j]'hj:=by
  intro j hj
  simp [ByteArray.get!,getElem!_pos,hj]
  rfl
 have hone:∀ j (hj:j<s.size),i≤j→j<i+1→128≤(s[j]'hj).toNat:=by
  intro j hj h1 h2
  have:j=i:=by omega
  subst this
  exact h
 have hcont:∀ k,(decide (i+k<s.size)&&(s.get! (i+k)).toNat / 64==2)=true→∃ hk:i+k<s.size,128≤(s[i+k]'hk).toNat:=by
  intro k hk
  simp at hk
  refine ⟨hk.1,?_⟩
  have:=hk.2
  rw [g _ hk.1] at this
  omega
 have h0:(s.get! (i+0)).toNat=(s[i]'hi).toNat:=by rw [Nat.add_zero,g i hi]
 have herr:128≤Utf8.runeError∧Utf8.runeError<2147483648:=by unfold Utf8.runeError;omega
 unfold Utf8.decode
 simp only [h0]
 rw [if_neg (by omega)]
 split
 ·rename_i hh
  rw [Bool.and_eq_true] at hh
  obtain ⟨k1,c1⟩:=hcont 1 hh.2
  split
  ·rename_i hc
   refine ⟨hc,?_,by simp,by simp;omega,?_⟩
   ·have:(s[i]'hi).toNat<256:=UInt8.toNat_lt _
    simp only
    have h1:=Nat.mod_lt (s[i]'hi).toNat (show 32>0 by decide)
    have h2:=Nat.mod_lt (s.get! (i+1)).toNat (show 64>0 by decide)
    omega
   ·intro j hj h1 h2
    simp only at h2
    rcases (by omega:j=i∨j=i+1) with rfl|rfl
    ·exact h
    ·exact c1
  ·exact ⟨herr.1,herr.2,by simp,by simp;omega,hone⟩
 ·split
  ·rename_i hh
   rw [Bool.and_eq_true,Bool.and_eq_true] at hh
   obtain ⟨k1,c1⟩:=hcont 1 hh.1.2
   obtain ⟨k2,c2⟩:=hcont 2 hh.2
   split
   ·rename_i hc
    rw [Bool.and_eq_true] at hc
    refine ⟨?_,?_,by simp,by simp;omega,?_⟩
    ·have:=of_decide_eq_true hc.1
     simp only
     omega
    ·simp only
     have h1:=Nat.mod_lt (s[i]'hi).toNat (show 16>0 by decide)
     have h2:=Nat.mod_lt (s.get! (i+1)).toNat (show 64>0 by decide)
     have h3:=Nat.mod_lt (s.get! (i+2)).toNat (show 64>0 by decide)
     omega
    ·intro j hj h1 h2
     simp only at h2
     rcases (by omega:j=i∨j=i+1∨j=i+2) with rfl|rfl|rfl
     ·exact h
     ·exact c1
     ·exact c2
   ·exact ⟨herr.1,herr.2,by simp,by simp;omega,hone⟩
  ·split
   ·rename_i hh
    rw [Bool.and_eq_true,Bool.and_eq_true,Bool.and_eq_true] at hh
    obtain ⟨k1,c1⟩:=hcont 1 hh.1.1.2
    obtain ⟨k2,c2⟩:=hcont 2 hh.1.2
    obtain ⟨k3,c3⟩:=hcont 3 hh.2
    split
    ·rename_i hc
     rw [Bool.and_eq_true] at hc
     refine ⟨?_,?_,by simp,by simp;omega,?_⟩
     ·have:=of_decide_eq_true hc.1
      simp only
      omega
     ·simp only
      have h1:=Nat.mod_lt (s[i]'hi).toNat (show 8>0 by decide)
      have h2:=Nat.mod_lt (s.get! (i+1)).toNat (show 64>0 by decide)
      have h3:=Nat.mod_lt (s.get! (i+2)).toNat (show 64>0 by decide)
      have h4:=Nat.mod_lt (s.get! (i+3)).toNat (show 64>0 by decide)
      omega
     ·intro j hj h1 h2
      simp only at h2
      rcases (by omega:j=i∨j=i+1∨j=i+2∨j=i+3) with rfl|rfl|rfl|rfl
      ·exact h
      ·exact c1
      ·exact c2
      ·exact c3
    ·exact ⟨herr.1,herr.2,by simp,by simp;omega,hone⟩
   ·exact ⟨herr.1,herr.2,by simp,by simp;omega,hone⟩
theorem q1kd (s:ByteArray) (c:Int) (w:World):Calls Tryz.prog 84 #[.string s,.int .u8 c] w fun e w'=>e=.returned (.int .i64 (Lib.indexByte s.data.toList c.toNat.toUInt8))∧w'=w:=Any.strings_IndexByte lays137 s c w
theorem q1tz (r:Int) (w:World):Calls Tryz.prog 142 #[.int .i32 r] w fun e w'=>e=.returned (.bool (Lib.validRune r))∧w'=w:=Any.utf8_ValidRune lays119 r w
theorem q1do (r:Int) (h:128≤r):(∃ a x,Utf8.encode r=⟨#[a,x]⟩∧128≤x.toNat)∨(∃ a b x,Utf8.encode r=⟨#[a,b,x]⟩∧128≤x.toNat)∨∃ a b c x,Utf8.encode r=⟨#[a,b,c,x]⟩∧128≤x.toNat:=by
 obtain ⟨l,x,he,hx,h1,h2⟩:=q1dn r h
 match l,h1,h2,he with
 |[a],_,_,he=>exact .inl ⟨a,x,he,hx⟩
 |[a,b],_,_,he=>exact .inr (.inl ⟨a,b,x,he,hx⟩)
 |[a,b,c],_,_,he=>exact .inr (.inr ⟨a,b,c,x,he,hx⟩)
theorem q1ke (s:ByteArray) (x:UInt8) (hs:s.data.toList.all (fun b=>decide (b.toNat<128))=true) (hx:128≤x.toNat) (w:World):Calls Tryz.prog 84 #[.string s,.int .u8 (x.toNat:Int)] w fun e w'=>e=.returned (.int .i64 (-1))∧w'=w:=by
 have h:=q1kd s (x.toNat:Int) w
 have hb:((x.toNat:Int)).toNat.toUInt8=x:=by simp
 have:Lib.indexByte s.data.toList x=-1:=by
  generalize s.data.toList=l at hs
  induction l with
  |nil=>rfl
  |cons b l ih =>
   rw [List.all_cons,Bool.and_eq_true] at hs
   have h1:=of_decide_eq_true hs.1
   have hne:(b==x)=false:=by
    rw [beq_eq_false_iff_ne]
    intro e
    subst e
    omega
   rw [Lib.indexByte,hne,ih hs.2]
   rfl
 rw [hb,this] at h
 exact h
theorem below_drewN' (w:World) (n:Nat):Below w.heap.size w (w.drewN n):=⟨rfl,rfl,rfl,Nat.le_refl _,fun _ _=>rfl⟩
theorem q1bt (w:World) (o:Obj):Below w.heap.size w (w.alloc o):=(Below.refl _ w).alloc (Nat.le_refl _) o
set_option maxHeartbeats 4000000 in
set_option maxRecDepth 100000 in
theorem q1kg (r:Int) (h:128≤r) (w:World):Calls Tryz.prog 129 #[.string ⟨#[13,10,0]⟩,.int .i32 r] w fun e w'=>e=.returned (.int .i64 (-1))∧Below w.heap.size w w':=by
 have h0:(0:Int)≤r:=by omega
 have h1:¬ r<128:=by omega
 go_enter Tryz.func129,Tryz.ntmps129
 go_wp2_with (first
  |(go_at_call 142;refine (q1tz r _).mono ?_;rintro e w2 ⟨rfl,rfl⟩)
  |go_in)
 ·-- the rune of an error: none of the three
  have n0:=fun ty=>run_next_ascii (P:=Tryz.prog) w ⟨#[13,10,0]⟩ 0 ty (by decide) (by decide)
  have n1:=fun ty=>run_next_ascii (P:=Tryz.prog) w ⟨#[13,10,0]⟩ 1 ty (by decide) (by decide)
  have n2:=fun ty=>run_next_ascii (P:=Tryz.prog) w ⟨#[13,10,0]⟩ 2 ty (by decide) (by decide)
  have n3:=fun ty=>run_next_end (P:=Tryz.prog) w ⟨#[13,10,0]⟩ 3 ty (by decide)
  refine wp_loop_rounds 4 ?_
  rw [rounds_succ]
  go_wp2
  rw [rounds_succ]
  go_wp2
  rw [rounds_succ]
  go_wp2
  rw [rounds_succ]
  go_wp2
  go_ret
  exact ⟨rfl,q1bt _ _⟩
 ·go_ret
  exact ⟨rfl,Below.refl _ _⟩
 ·rcases q1do r h with ⟨a,x,he,hx⟩|⟨a,b,x,he,hx⟩|⟨a,b,c,x,he,hx⟩
  ·have d1:((10:Int) != (x.toNat:Int))=true:=by rw [bne_iff_ne];omega
   have d2:((0:Int) != (x.toNat:Int))=true:=by rw [bne_iff_ne];omega
   go_step3
   go_wp2
   refine wp_loop_rounds 1 ?_
   rw [rounds_succ]
   go_wp2
   go_step3
   go_wp2
   go_quiet (fail)
   go_wp2
   go_quiet ((go_at_call 84;exact (q1ke _ x (by decide) hx _).mono fun _ _ h=>⟨h.1,_,h.2⟩))
   go_wp2
   ·simp only [Exit.noGoto,Exit.inBlock,Exit.then]
    go_ret
    exact ⟨rfl,below_drewN' _ _⟩
   ·exfalso
    have hh:((10:Int) != (x.toNat:Int))=false:=by assumption
    exact absurd (d1.symm.trans hh) (by decide)
  ·have d1:((10:Int) != (x.toNat:Int))=true:=by rw [bne_iff_ne];omega
   have d2:((0:Int) != (x.toNat:Int))=true:=by rw [bne_iff_ne];omega
   go_step3
   go_wp2
   refine wp_loop_rounds 1 ?_
   rw [rounds_succ]
   go_wp2
   go_step3
   go_wp2
   go_quiet (fail)
   go_wp2
   go_quiet ((go_at_call 84;exact (q1ke _ x (by decide) hx _).mono fun _ _ h=>⟨h.1,_,h.2⟩))
   go_wp2
   ·simp only [Exit.noGoto,Exit.inBlock,Exit.then]
    go_ret
    exact ⟨rfl,below_drewN' _ _⟩
   ·exfalso
    have hh:((0:Int) != (x.toNat:Int))=false:=by assumption
    exact absurd (d2.symm.trans hh) (by decide)
  ·go_step3
   go_wp2
   refine wp_loop_rounds 1 ?_
   rw [rounds_succ]
   go_wp2
   rw [Exit.noGoto_ret]
   go_ret
   exact ⟨rfl,Below.refl _ _⟩
end Go.Proofs.YtepmpilapglklaaGreat
namespace Go.Proofs.YtepmpilapglklaaGreat
open Go.RowKit Go.ChangeMaps
theorem q1o5 {P:Program} (W:World) (r:Nat) (s:ByteArray) (pos:Nat) (h:W.heap[r]?=some (.stringIter s pos)) (hp:pos<s.size) (ty:TypeId) :
  (Instr.next (.pointer (some ⟨r,0,none⟩)) true ty).run P W=.ok (.tuple #[.bool true,.int .i64 pos,.int .i32 (Utf8.decode s pos).1]) (setBlock W r (.stringIter s (pos+(Utf8.decode s pos).2))):=by
 simp [Instr.next,getObj,setObj,Sem.run,h,hp,Result.andThen,goInt,setBlock]
theorem q1o6 {P:Program} (W:World) (r:Nat) (s:ByteArray) (pos:Nat) (h:W.heap[r]?=some (.stringIter s pos)) (hp:¬ pos<s.size) (ty:TypeId) :
  (Instr.next (.pointer (some ⟨r,0,none⟩)) true ty).run P W=.ok (.tuple #[.bool false]) W:=by
 simp [Instr.next,getObj,Sem.run,h,hp]
theorem q1kf (s:ByteArray) (r:Int) (w:World) (h0:0≤r) (h1:r<128):Calls Tryz.prog 129 #[.string s,.int .i32 r] w fun e w'=>e=.returned (.int .i64 (Lib.indexByte s.data.toList r.toNat.toUInt8))∧w'=w:=Any.strings_IndexRune_ascii lays152 s r w h0 h1
theorem q1ji (s chars:ByteArray) (w:World) (h2:2≤chars.size) (h8:8<s.size) (hs:s.size<4294967281) (hcs:chars.size<4294967281) (hascii:∀ (j:Nat) b,chars.data.toList[j]?=some b→b.toNat<128) :
  Calls Tryz.prog 121 #[.string s,.string chars] w fun e w'=>e=.returned (.int .i64 (Lib.indexAny s.data.toList chars.data.toList))∧Below w.heap.size w w':=by
 refine (Any.strings_IndexAny_long lays153 (fun w=>by kernel_rfl) (by kernel_rfl) s chars w h2 h8 hs hcs hascii).mono fun e w'=>?_
 rintro ⟨rfl,rfl⟩
 exact ⟨rfl,((Below.refl _ _).alloc (Nat.le_refl _) _).alloc (by simp) _⟩
theorem q1q3 (n:Int) (w:World):Calls Tryz.prog 130 #[.int .i64 n] w fun e w'=>e=.returned (.bool (decide (8<n)))∧w'=w:=Any.strings_shouldUseASCIISet { lays153 with } n w
theorem q1mf {s:ByteArray} {i k:Nat} (h:Lib.NoAny s.data.toList crlf0 i) (hk:∀ j (hj:j<s.size),i≤j→j<k→crlf0.contains (s[j]'hj)=false):Lib.NoAny s.data.toList crlf0 k:=fun j b hj hb=>by
 by_cases e:j<i
 ·exact h j b e hb
 ·obtain ⟨hj2,hb2⟩:=List.getElem?_eq_some_iff.1 hb
  have hj3:j<s.size:=by rw [Array.length_toList] at hj2;exact hj2
  have:=hk j hj3 (by omega) hj
  rw [←hb2]
  exact this
theorem q1d0 (b:UInt8) (h:128≤b.toNat):crlf0.contains b=false:=by
 unfold crlf0
 have h1:b≠13:=fun e=>by subst e;revert h;decide
 have h2:b≠10:=fun e=>by subst e;revert h;decide
 have h3:b≠0:=fun e=>by subst e;revert h;decide
 simp [h1,h2,h3]
theorem q1bu {B:Nat} {a w:World} (h:Below B a w) {r:Nat} (hr:B≤r) (o:Obj):Below B a (setBlock w r o) :=
 ⟨h.os,h.tape,h.output,by simp only [setBlock,Array.size_setIfInBounds];exact h.size,fun k hk=>by
  simp only [setBlock]
  rw [Array.getElem?_setIfInBounds_ne (by omega)]
  exact h.block k hk⟩
set_option maxHeartbeats 8000000 in
set_option maxRecDepth 1000000 in
theorem q1jj (s:ByteArray) (w:World) (h8:s.size≤8) :
  Calls Tryz.prog 121 #[.string s,.string ⟨#[13,10,0]⟩] w fun e w'=>e=.returned (.int .i64 (Lib.indexAny s.data.toList crlf0))∧Below w.heap.size w w':=by
 have h8z:decide ((8:Int)<(s.size:Int))=false:=decide_eq_false (by omega)
 have hb0:Below w.heap.size w (w.iter s 0):=q1bt _ _
 have hi0:=World.iter_heap w s 0
 go_enter Tryz.func121,Tryz.ntmps121
 go_wp2_with (go_at_call 130;refine (q1q3 _ _).mono ?_;rintro e w' ⟨rfl,hw⟩;rw [hw,h8z])
 go_loopg [9,10] s.size (fun g _ _ wx=>∃ i:Nat,i+g=s.size∧wx.heap[w.heap.size]?=some (.stringIter s i)∧Below w.heap.size w wx∧Lib.NoAny s.data.toList crlf0 i)
 case atStart=>exact ⟨0,by omega,hi0,hb0,Lib.NoAny.zero _ _⟩
 case round =>
  obtain ⟨i,hig,hit,hbel,hno⟩:=hrel
  cases gk with
  |zero =>
   obtain rfl:i=s.size:=by omega
   have hnx:=q1o6 (P:=Tryz.prog) wr w.heap.size s s.size hit (by omega)
   have hnone:Lib.indexAny s.data.toList crlf0=-1:=Lib.indexAny_none (by rw [Array.length_toList];exact hno)
   go_wp2
   go_ret
   exact ⟨by rw [hnone];rfl,hbel⟩
  |succ g =>
   have hi:i<s.size:=by omega
   have hnx:=q1o5 (P:=Tryz.prog) wr w.heap.size s i hit hi
   have hlt:=(Array.getElem?_eq_some_iff.1 hit).1
   by_cases hx:(s[i]'hi).toNat<128
   ·rw [decode_ascii s i hi hx] at hnx
    simp only at hnx
    have hset:(setBlock wr w.heap.size (.stringIter s (i+1))).heap[w.heap.size]?=some (.stringIter s (i+1)):=by
     simp only [setBlock]
     rw [Array.getElem?_setIfInBounds_self_of_lt hlt]
    have hb1:=q1bu hbel (Nat.le_refl _) (.stringIter s (i+1))
    obtain ⟨x,hxe⟩:∃ x:UInt8,s[i]'hi=x:=⟨_,rfl⟩
    rw [hxe] at hnx hx
    have hxl:s.data.toList[i]?=some x:=by rw [←hxe];exact Lib.data_getElem? s i hi
    have hcon:=Lib.contains_iff_indexByte crlf0 x
    have hback:((x.toNat:Int)).toNat.toUInt8=x:=by simp
    have hr:=fun W=>q1kf ⟨#[13,10,0]⟩ (x.toNat:Int) W (by omega) (by omega)
    rw [hback] at hr
    have hcd:(⟨#[13,10,0]⟩:ByteArray).data.toList=crlf0:=rfl
    rw [hcd] at hr
    cases hin:crlf0.contains x with
    |false =>
     rw [hin] at hcon
     have hlt0:¬ ((0:Int)≤Lib.indexByte crlf0 x):=of_decide_eq_false hcon.symm
     have hno1:Lib.NoAny s.data.toList crlf0 (i+1):=hno.succ hxl hin
     clear hcon
     go_wp2_with (first
      |(go_at_call 129;refine (hr _).mono ?_;rintro e w' ⟨rfl,rfl⟩)
      |go_in)
     go_roundg g
     case measure=>omega
     case rel=>exact ⟨i+1,by omega,hset,hb1,hno1⟩
    |true =>
     rw [hin] at hcon
     have hge0:(0:Int)≤Lib.indexByte crlf0 x:=of_decide_eq_true hcon.symm
     have hhit:Lib.indexAny s.data.toList crlf0=i:=Lib.indexAny_hit hno hxl hin
     clear hcon
     go_wp2_with (first
      |(go_at_call 129;refine (hr _).mono ?_;rintro e w' ⟨rfl,rfl⟩)
      |go_in)
     go_ret
     exact ⟨by rw [hhit];rfl,hb1⟩
   ·obtain ⟨d1,d2,d3,d4,d5⟩:=q1d9 s i hi (by omega)
    have hno1:Lib.NoAny s.data.toList crlf0 (i+(Utf8.decode s i).2):=q1mf hno (fun j hj h1 h2=>q1d0 _ (d5 j hj h1 h2))
    generalize (Utf8.decode s i).1=c at hnx d1 d2
    generalize (Utf8.decode s i).2=k at hnx d3 d4 d5 hno1
    have hset:(setBlock wr w.heap.size (.stringIter s (i+k))).heap[w.heap.size]?=some (.stringIter s (i+k)):=by
     simp only [setBlock]
     rw [Array.getElem?_setIfInBounds_self_of_lt hlt]
    have hb1:=q1bu hbel (Nat.le_refl _) (.stringIter s (i+k))
    have hsz1:w.heap.size<(setBlock wr w.heap.size (.stringIter s (i+k))).heap.size:=by simp only [setBlock,Array.size_setIfInBounds];exact hlt
    have hr:=fun W=>q1kg (c:Int) (by omega) W
    go_wp2_with (first
     |(go_at_call 129;refine (hr _).mono ?_;rintro e w' ⟨rfl,hbw⟩)
     |go_in)
    go_roundg (s.size - (i+k))
    case measure=>omega
    case rel=>exact ⟨i+k,by omega,by rw [hbw.block _ hsz1];exact hset,hb1.trans (hbw.mono (by omega)),hno1⟩
end Go.Proofs.YtepmpilapglklaaGreat
