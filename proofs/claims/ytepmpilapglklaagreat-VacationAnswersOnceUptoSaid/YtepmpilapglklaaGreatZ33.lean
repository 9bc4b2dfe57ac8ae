/- The rules are sound. -/
import Derived.Test.YtepmpilapglklaaGreatZ27
import Derived.Test.YtepmpilapglklaaGreatZ29
import Derived.Test.YtepmpilapglklaaGreatZ32
import Derived.Test.YtepmpilapglklaaGreatZ26
import Derived.Shelf.Vars
import Derived.HandedShaped
import Derived.ChangeMaps5
import Derived.Deep.DeepHandedRow
import Derived.Lib.LaidU8
import Derived.Lib.LaidIn
namespace Go.Proofs.YtepmpilapglklaaGreat
open Go.RowKit
theorem q8o (s sep:ByteArray) (m:Int) (w:World) (hs:s.size<4294967281) (hm:w.cell? ⟨0,0,none⟩=some (.int .i64 m)) :
  Calls Tryz.prog 82 #[.string s,.string sep] w fun e w'=>e=.returned (.tuple #[.string ⟨(Lib.cut s.data.toList sep.data.toList).1.toArray⟩,.string ⟨(Lib.cut s.data.toList sep.data.toList).2.1.toArray⟩,.bool (Lib.cut s.data.toList sep.data.toList).2.2])∧∃ n,w'=w.drewN n:=Any.strings_Cut lays145 s sep m w hs hm
theorem bel_of {w w':World} (h:Below w.heap.size w w'):Bel w w':=⟨h.os,h.tape,h.output,h.size,h.block⟩
theorem gw_ml {w:World} (h:GW w):∃ m,w.cell? ⟨0,0,none⟩=some (.int .i64 m):=by unfold GW at h;exact h.1
theorem q7p (l:List UInt8):decide (0≤Lib.indexAny l crlf0)=l.any fun b=>crlf0.contains b:=by
 induction l with
 |nil=>rfl
 |cons b l ih =>
  rw [List.any_cons,Lib.indexAny,←ih]
  cases crlf0.contains b with
  |true=>rfl
  |false =>
   have:=Lib.indexAny_ge crlf0 l
   by_cases h:Lib.indexAny l crlf0=-1
   ·rw [h];rfl
   ·have h2:(Lib.indexAny l crlf0==-1)=false:=by simpa using h
    simp only [h2,Bool.false_eq_true,if_false,Bool.false_or]
    rw [Bool.eq_iff_iff]
    simp
    omega
set_option maxRecDepth 100000 in
theorem q7n (s:ByteArray) (w:World) (hs:s.size<4294967281):Calls Tryz.prog 111 #[.string s,.string ⟨#[13,10,0]⟩] w fun e w'=>e=.returned (.bool (s.data.toList.any fun b=>crlf0.contains b))∧Below w.heap.size w w':=by
 have hc:Calls Tryz.prog 121 #[.string s,.string ⟨#[13,10,0]⟩] w fun e w'=>e=.returned (.int .i64 (Lib.indexAny s.data.toList crlf0))∧Below w.heap.size w w':=by
  by_cases h8:s.size≤8
  ·exact qi5 s w h8
  ·exact qi4 s ⟨#[13,10,0]⟩ w (by decide) (by omega) hs (by decide) (fun j b hb=>by
    have:b∈([13,10,0]:List UInt8):=List.mem_of_getElem? hb
    simp at this
    rcases this with rfl|rfl|rfl <;> decide)
 go_enter Tryz.func111,Tryz.ntmps111
 go_wp2_with (go_at_call 121;refine hc.mono ?_;rintro e w' ⟨rfl,hb⟩)
 go_ret
 refine ⟨?_,hb⟩
 rw [←q7p s.data.toList]
 rfl
theorem qo8 {w w':World} {Z:ZMap} (hG:GW w) (hb:Bel w w') (hZ:∀ b o u,Z b o=some u→w.cell? ⟨b,o,none⟩=some u):Rel (wb w) Z (fun _ _=>none) (fun _=>none) (fun i=>([]:List B)[i]?) (fun _=>false) w' :=
 ⟨wb_bel.2 hb,⟨hG,GB.no⟩,fun b o u h=>by rw [hb.cell _ (q7s (hZ _ _ _ h))];exact hZ _ _ _ h,(fun _ _ _ h=>by cases h),by simp,by simp,by simp,by simp,by simp⟩
theorem args1 {cargs:Array Value} {a:V} {Z Y:ZMap} (hs:cargs.size=1) (hr:∀ (i:Nat) u x,cargs[i]?=some u→[a][i]?=some x→Rep Z Y noM u x):∃ u,cargs=#[u]∧Rep Z Y noM u a:=by
 refine ⟨cargs[0]'(by omega),?_,hr 0 _ _ (Array.getElem?_eq_getElem _) rfl⟩
 apply Array.ext (by simpa using hs)
 intro i h1 h2
 have:i=0:=by omega
 subst this
 rfl
theorem args2 {cargs:Array Value} {a b:V} {Z Y:ZMap} (hs:cargs.size=2) (hr:∀ (i:Nat) u x,cargs[i]?=some u→[a,b][i]?=some x→Rep Z Y noM u x):∃ u v,cargs=#[u,v]∧Rep Z Y noM u a∧Rep Z Y noM v b:=by
 refine ⟨cargs[0]'(by omega),cargs[1]'(by omega),?_,hr 0 _ _ (Array.getElem?_eq_getElem _) rfl,hr 1 _ _ (Array.getElem?_eq_getElem _) rfl⟩
 apply Array.ext (by simpa using hs)
 intro i h1 h2
 match i,h1 with
 |0,_=>rfl
 |1,_=>rfl
 |i+2,h1=>omega
theorem q7g {f:FuncId} {args:List V} {x:V} (ho:okRes x=true) (h:∀ (w:World) (Z Y:ZMap) (cargs:Array Value),GW w→cargs.size=args.length→(∀ (i:Nat) u x,cargs[i]?=some u→args[i]?=some x→Rep Z Y noM u x) →
  Calls Tryz.prog f cargs w fun e w'=>∃ cv,e=.returned cv∧Bel w w'∧∀ (Z:ZMap) Y,Rep Z Y noM cv x):CallOk Tryz.prog f args (x,[]):=by
 refine ⟨ho,(fun b hb=>by cases hb),fun w Z Y cargs hG hZ hY hs hr=>(h w Z Y cargs hG hs hr).mono fun e w'=>?_⟩
 rintro ⟨cv,rfl,hb,r⟩
 exact ⟨cv,Z,fun _=>none,rfl,ZUp.refl,qo8 hG hb hZ,r _ _,fun i h=>absurd rfl h⟩
theorem q8e (s sub:ByteArray) (m:Int) (w:World) (hs:s.size<4294967281) (hm:w.cell? ⟨0,0,none⟩=some (.int .i64 m)) :
  Calls Tryz.prog 100 #[.string s,.string sub] w fun e w'=>e=.returned (.bool (Lib.contains s.data.toList sub.data.toList))∧w'=w:=Any.strings_Contains lays144 s sub m w hs hm
theorem q84 (a b:ByteArray) (w:World):Calls Tryz.prog 52 #[.string a,.string b] w fun e w'=>e=.returned (.int .i64 (Lib.compareBytes a.data.toList b.data.toList))∧w'=w:=Any.strings_Compare lays106 a b w
set_option maxHeartbeats 400000 in
set_option maxRecDepth 4000 in
theorem q7y (w:World):Calls Tryz.prog 26 #[.slice none 0 0] w fun e w'=>e=.returned (.slice none 0 0)∧w=w':=by
 have hz:∀ w:World,(binOp .eql 22 (.slice none 0 0) (.slice none 0 0)).run Tryz.prog w=.ok (.bool true) w:=fun w=>Lib.run_eql_slice_nil w _ _ _ _ _ _ _ Tryz.underlying22
 go_enter Tryz.func26,Tryz.ntmps26
 go_wp2
 go_ret
 exact ⟨rfl,rfl⟩
theorem q7z {f:FuncId} (hnil:∀ w,Calls Tryz.prog f #[.slice none 0 0] w fun e w'=>e=.returned (.slice none 0 0)∧w=w') (c2:CallOk Tryz.prog f [.c .ne] (.row 0 0,[.row []])):CallOk Tryz.prog f [.c (.sl [])] (.row 0 0,[.row []]):=by
 refine ⟨c2.1,c2.2.1,fun w Z Y cargs hG hZ hY hs hr=>?_⟩
 have hs1:cargs.size=1:=hs
 obtain ⟨u,hu⟩:∃ u,cargs[0]?=some u:=⟨cargs[0]'(by omega),Array.getElem?_eq_getElem _⟩
 have r0:=hr 0 u _ hu rfl
 cases r0 with
 |c r0 =>
 have one:∀ y:C,RepC Z u y→∀ (i:Nat) u' x,cargs[i]?=some u'→[V.c y][i]?=some x→Rep Z Y noM u' x:=by
  intro y hy i u' x h1 h2
  cases i with
  |zero =>
   rw [hu] at h1
   injection h1 with h1;subst h1
   simp at h2;subst h2
   exact .c hy
  |succ i=>simp at h2
 cases r0 with
 |sl A n c k b off U es hl hc hm hk hA hz hr' hN =>
  have hl':n=0:=by simpa using hl.symm
  subst hl'
  cases A with
  |none =>
   have:=hN rfl
   subst this
   obtain rfl:cargs=#[.slice none 0 0]:=by
    apply Array.ext (by simpa using hs1)
    intro i h1 h2
    have:i=0:=by simp at h2;omega
    subst this
    rw [Array.getElem?_eq_getElem h1] at hu
    injection hu
   refine (hnil w).mono fun e w'=>?_
   rintro ⟨rfl,rfl⟩
   refine ⟨_,Z,fun i=>if i=0 then some (.slice none 0 0) else none,rfl,ZUp.refl,⟨wb_bel.2 (Bel.refl _),⟨hG,GB.no⟩,hZ,(fun _ _ _ h=>by cases h),?_,?_,?_,?_,?_⟩,.row 0 0 none 0 (by simp) (by simp),?_⟩
   ·intro id cs h
    cases id <;> simp at h
   ·intro id es h
    cases id with
    |zero=>simp at h;subst h;exact .inl ⟨by simp,rfl⟩
    |succ id=>simp at h
   ·intro id es q v h
    cases id <;> simp at h
   ·intro id l h
    cases id <;> simp at h
   ·intro id id' g _ _ h
    unfold blkOf at h
    by_cases h0:id=0 <;> simp [h0] at h
   ·intro i h
    by_cases h0:i=0
    ·subst h0;simp
    ·simp [h0] at h
  |some a=>exact c2.2.2 w Z Y cargs hG hZ hY hs (one .ne (.ne a c hm))
theorem mo_ok:Tryz.prog.follows .mixedOrders=true:=by kernel_rfl
theorem X0c_ok:∀ f args r,X0c f args=some r→CallOk Tryz.prog f args r:=by
 intro f args r h
 unfold X0c at h
 cases hf:clones.contains f with
 |true =>
  rw [hf,cond_true] at h
  split at h
  case h_2=>cases h
  injection h with h
  subst h
  have hm:f=26:=by
   have:f∈clones:=by simpa using hf
   simpa [clones] using this
  subst hm
  exact q7z q7y (qc Tryz.prog lv ⟨fun _ _=>none,fun _=>none⟩ mo_ok ⟨fun _ _ _ h=>by (cases h),fun _ _ _ _ _ h=>by (cases h)⟩ (qa (n:=30) (by kernel_rfl)))
 |false =>
 rw [hf,cond_false] at h
 cases h1:f==100 with
 |true =>
  rw [h1,cond_true] at h
  have hf':f=100:=by simpa using h1
  subst hf'
  split at h
  case h_2=>cases h
  rename_i s t
  cases hp:contP s t with
  |none=>rw [hp] at h;cases h
  |some b =>
  rw [hp] at h
  injection h with h
  subst h
  unfold contP at hp
  split at hp
  case isFalse=>cases hp
  rename_i hsz
  injection hp with hp
  subst hp
  refine q7g rfl fun w Z Y cargs hG hs hr=>?_
  obtain ⟨u,v,rfl,r1,r2⟩:=args2 hs hr
  rw [qom r1,qom r2]
  obtain ⟨m,hm⟩:=gw_ml hG
  exact (q8e s t m w hsz hm).mono fun e w' h=>⟨_,h.1,by rw [h.2];exact Bel.refl _,fun _ _=>.c (.bool _)⟩
 |false =>
 rw [h1,cond_false] at h
 cases h2:f==82 with
 |true =>
  rw [h2,cond_true] at h
  have hf':f=82:=by simpa using h2
  subst hf'
  split at h
  case h_2=>cases h
  rename_i s t
  cases hp:cutP s t with
  |none=>rw [hp] at h;cases h
  |some b =>
  rw [hp] at h
  injection h with h
  subst h
  unfold cutP at hp
  split at hp
  case isFalse=>cases hp
  rename_i hsz
  injection hp with hp
  subst hp
  refine q7g rfl fun w Z Y cargs hG hs hr=>?_
  obtain ⟨u,v,rfl,r1,r2⟩:=args2 hs hr
  rw [qom r1,qom r2]
  obtain ⟨m,hm⟩:=gw_ml hG
  refine (q8o s t m w hsz hm).mono fun e w' h=>?_
  obtain ⟨he,n,rfl⟩:=h
  refine ⟨_,he,(Bel.refl w).drewN n,fun _ _=>.tup _ _ rfl ?_⟩
  intro i u x hu hx
  match i with
  |0=>simp at hu hx;subst hu;subst hx;exact .c (.str _)
  |1=>simp at hu hx;subst hu;subst hx;exact .c (.str _)
  |2=>simp at hu hx;subst hu;subst hx;exact .c (.bool _)
  |i+3=>simp at hu
 |false =>
 rw [h2,cond_false] at h
 cases h3:f==84 with
 |true =>
  rw [h3,cond_true] at h
  have hf':f=84:=by simpa using h3
  subst hf'
  split at h
  case h_2=>cases h
  rename_i s c
  injection h with h
  subst h
  refine q7g rfl fun w Z Y cargs hG hs hr=>?_
  obtain ⟨u,v,rfl,r1,r2⟩:=args2 hs hr
  rw [qom r1,qol r2]
  exact (qja s c w).mono fun e w' h=>⟨_,h.1,by rw [h.2];exact Bel.refl _,fun _ _=>.c (.int _ _)⟩
 |false =>
 rw [h3,cond_false] at h
 cases h4:f==111 with
 |true =>
  rw [h4,cond_true] at h
  have hf':f=111:=by simpa using h4
  subst hf'
  split at h
  case h_2=>cases h
  rename_i s t
  cases hp:canyP s t with
  |none=>rw [hp] at h;cases h
  |some b =>
  rw [hp] at h
  injection h with h
  subst h
  unfold canyP at hp
  split at hp
  case isFalse=>cases hp
  rename_i hsz
  injection hp with hp
  subst hp
  have ht:t=⟨#[13,10,0]⟩:=by
   apply ByteArray.ext
   exact Array.toList_inj.1 hsz.2
  subst ht
  refine q7g rfl fun w Z Y cargs hG hs hr=>?_
  obtain ⟨u,v,rfl,r1,r2⟩:=args2 hs hr
  rw [qom r1,qom r2]
  exact (q7n s w hsz.1).mono fun e w' h=>⟨_,h.1,bel_of h.2,fun _ _=>.c (.bool _)⟩
 |false =>
 rw [h4,cond_false] at h
 cases h10:f==52 with
 |true =>
  rw [h10,cond_true] at h
  have hf':f=52:=by simpa using h10
  subst hf'
  split at h
  case h_2=>cases h
  rename_i s t
  injection h with h
  subst h
  refine q7g rfl fun w Z Y cargs hG hs hr=>?_
  obtain ⟨u,v,rfl,r1,r2⟩:=args2 hs hr
  rw [qom r1,qom r2]
  exact (q84 s t w).mono fun e w' h=>⟨_,h.1,by rw [h.2];exact Bel.refl _,fun _ _=>.c (.int _ _)⟩
 |false =>
 rw [h10,cond_false] at h
 cases h11:f==58 with
 |true =>
  rw [h11,cond_true] at h
  have hf':f=58:=by simpa using h11
  subst hf'
  split at h
  case h_2=>cases h
  rename_i s
  cases hp:linP s with
  |none=>rw [hp] at h;cases h
  |some b =>
  rw [hp] at h
  injection h with h
  subst h
  unfold linP at hp
  split at hp
  case isFalse=>cases hp
  rename_i hsz
  injection hp with hp
  subst hp
  refine q7g rfl fun w Z Y cargs hG hs hr=>?_
  obtain ⟨u,rfl,r1⟩:=args1 hs hr
  rw [qom r1]
  exact (qkd s hsz w).mono fun e w' h=>⟨_,h.1,bel_of h.2,fun _ _=>.c (.str _)⟩
 |false =>
 rw [h11,cond_false] at h
 cases h
theorem X0_ok:XOk Tryz.prog X0:=by
 refine ⟨X0c_ok,fun f R st vs s1 hf0 h=>?_⟩
 have hf:X0h f=some R:=hf0
 clear hf0
 unfold X0h at hf
 cases h1:f==33 with
 |true =>
  rw [h1,cond_true] at hf
  injection hf with hR
  have hf':f=33:=by simpa using h1
  subst hR
  subst hf'
  exact q96 st vs s1 h
 |false =>
 rw [h1,cond_false] at hf
 cases h2:f==35 with
 |true =>
  rw [h2,cond_true] at hf
  injection hf with hR
  have hf':f=35:=by simpa using h2
  subst hR
  subst hf'
  exact qit st vs s1 h
 |false =>
 rw [h2,cond_false] at hf
 cases hf
end Go.Proofs.YtepmpilapglklaaGreat
namespace Go.Proofs.YtepmpilapglklaaGreat
open Go.ChangeShapes Go.WideShapes Go.ChangeAt Go.ChangeMaps Go.RowKit Go.Deep
theorem moR_ok:Tryz.prog.follows .mixedOrders=true:=by kernel_rfl
theorem qjz {f:FuncId} {args:List V} {cargs:Array Value} {W:World} (hC:Call Tryz.prog lv X0 f args=some (.c (.bool true),[])) (hG:GW W) (hsz:cargs.size=args.length)
  (hrep:∀ (i:Nat) u x,cargs[i]?=some u→args[i]?=some x→Rep (Zw W) (fun _ _=>none) noM u x):Calls Tryz.prog f cargs W fun e W'=>e=.returned (.bool true)∧Bel W W':=by
 have ok:=qc Tryz.prog lv X0 moR_ok X0_ok hC
 refine (ok.2.2 W (Zw W) (fun _ _=>none) cargs hG (fun _ _ _ h=>h) (fun _ _ _ h=>by cases h) hsz hrep).mono fun e W'=>?_
 rintro ⟨cv,Z',m',rfl,_,R,r,_⟩
 cases r with
 |c r =>
 cases r
 exact ⟨rfl,wb_bel.1 R.bel⟩
def RepA (W:World):List Value→List V→Prop
 |[],[]=>True
 |u::us,x::xs=>Rep (Zw W) (fun _ _=>none) noM u x∧RepA W us xs
 |_,_=>False
theorem RepA.get {W:World}:∀ {us:List Value} {xs:List V},RepA W us xs→us.length=xs.length∧∀ (i:Nat) u x,us[i]?=some u→xs[i]?=some x→Rep (Zw W) (fun _ _=>none) noM u x
 |[],[],_=>⟨rfl,fun i u x h _=>by simp at h⟩
 |u::us,x::xs,h=>by
  obtain ⟨h1,h2⟩:=RepA.get h.2
  refine ⟨by simp [h1],fun i u' x' hu hx=>?_⟩
  cases i with
  |zero=>simp at hu hx;subst hu hx;exact h.1
  |succ i=>simp at hu hx;exact h2 i u' x' hu hx
 |[],_::_,h=>h.elim
 |_::_,[],h=>h.elim
def laidL:List (String×DataW Unit):=[]
theorem gw_row {W:World} (hs:W.ShapedOpen Tryz.prog):GW W :=
 ⟨Go.Proofs.cell_of_shapedOpen_int (zero:=#[.int .i64 0]) (t:=3) hs (of_decide_eq_true (by kernel_rfl)) (by kernel_rfl) rfl (by kernel_rfl) (by kernel_rfl) Tryz.underlying3,trivial⟩
noncomputable def laidWorld (os:Os) (args:Array Value):World:=World.holding Tryz.prog os ⟨#[],args,[]⟩
theorem qjr (os:Os) (args:Array Value):laidMetH Tryz.prog laidL ((laidWorld os args).forCall (fun _ _=>0) ⟨#[],args,[]⟩).memory:=by
 show laidMet Tryz.prog [] _
 exact ⟨[],rfl,.nil,fun _ _ h=>by cases h⟩
end Go.Proofs.YtepmpilapglklaaGreat
