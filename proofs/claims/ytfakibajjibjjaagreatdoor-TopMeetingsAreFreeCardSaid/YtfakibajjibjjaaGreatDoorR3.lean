/- From the machine to the rows: what the listed variables give; a world that meets the rows; the law's contract. -/
import Derived.Test.YtfakibajjibjjaaGreatDoorZ42
import Derived.Test.YtfakibajjibjjaaGreatDoorGU
import Derived.Shelf.Vars
import Derived.HandedShaped
import Derived.ChangeMaps5
import Derived.Deep.DeepHandedRow
import Derived.Lib.LaidU8
import Derived.Lib.LaidIn
namespace Go.Proofs.YtfakibajjibjjaaGreatDoor
open Go.ChangeShapes Go.WideShapes Go.ChangeAt Go.ChangeMaps Go.RowKit Go.Deep
theorem moR_ok:Tryz.prog.follows .mixedOrders=true:=by kernel_rfl
theorem qoq {f:FuncId} {args:List V} {cargs:Array Value} {W:World} (hC:Call Tryz.prog lv X1 f args=some (.c (.bool true),[])) (hG:GW W) (hsz:cargs.size=args.length)
  (hrep:∀ (i:Nat) u x,cargs[i]?=some u→args[i]?=some x→Rep (Zw W) (fun _ _=>none) noM u x):Calls Tryz.prog f cargs W fun e W'=>e=.returned (.bool true)∧Bel W W':=by
 have ok:=qj Tryz.prog lv X1 moR_ok X1_ok hC
 refine (ok.2.2 W (Zw W) (fun _ _=>none) cargs hG (fun _ _ _ h=>h) (fun _ _ _ h=>by cases h) hsz hrep).mono fun e W'=>?_
 rintro ⟨cv,Z',m',rfl,_,R,r,_⟩
 cases r with
 |c r =>
 cases r
 exact ⟨rfl,q153.1 R.bel⟩
def RepA (W:World):List Value→List V→Prop
 |[],[]=>True
 |u::us,x::xs=>Rep (Zw W) (fun _ _=>none) noM u x∧RepA W us xs
 |_,_=>False
theorem RepA.get {W:World}:∀ {us:List Value} {xs:List V},RepA W us xs→us.length=xs.length∧∀ (i:Nat) u x,us[i]?=some u→xs[i]?=some x→Rep (Zw W) (fun _ _=>none) noM u x
 |[],[],_=>⟨rfl,fun i u x h _=>by simp at h⟩
 |u::us,x::xs,h=>by
  obtain ⟨h1,h2⟩:=RepA.get h.2
  refine ⟨by simp [h1],fun i u' x' hu hx=>?_⟩
  cases i with
  |zero=>simp at hu hx;subst hu hx;exact h.1
  |succ i=>simp at hu hx;exact h2 i u' x' hu hx
 |[],_::_,h=>h.elim
 |_::_,[],h=>h.elim
def laidL : List (String × DataW Unit) := [("math/bits.deBruijn32tab", Rows.laid_math_bits_deBruijn32tab), ("math/bits.deBruijn64tab", Rows.laid_math_bits_deBruijn64tab), ("internal/strconv.uint64pow10", Rows.laid_internal_strconv_uint64pow10), ("unicode/utf8.acceptRanges", Rows.laid_unicode_utf8_acceptRanges), ("strconv.ErrRange", Rows.laid_strconv_ErrRange), ("strconv.ErrSyntax", Rows.laid_strconv_ErrSyntax), ("unicode/utf8.first", Rows.laid_unicode_utf8_first)]
theorem q136 {H:Type} {enc:TypeId×Value→H} {P:Program} {w:World} {base:Nat} {spare:Nat→Bool} {held:Bool} {fuel:Nat} {t:TypeId} {ms:Array (String×TypeId)} {cs:List Value} {x:DataW H×List MemPlace}
  (ht:P.underlying t=some (.interface ms)) (h:DataW.trod enc P w base spare held fuel t cs=some x):cs=[.nilIface]∨∃ te pe,cs=[.iface te pe]:=by
 cases fuel with
 |zero=>simp [DataW.trod] at h
 |succ fuel =>
  simp only [DataW.trod,ht] at h
  split at h <;> first|(exact .inl rfl)|(exact .inr ⟨_,_,rfl⟩)|simp_all
theorem q8t {P:Program} {w:World} {name:String} {g:Nat} {t:TypeId} {ms:Array (String×TypeId)} {D:DataW Unit} (hr:Lib.VarReads P w name D) (hg:P.globalNamed name=some g) (ht:(P.globals[g]?).map (·.type)=some t) (hu:P.underlying t=some (.interface ms)) :
  ∃ ev,w.cell? ⟨g,0,none⟩=some ev∧(ev=.nilIface∨∃ te pe,ev=.iface te pe):=by
 obtain ⟨g',t',cs,fuel,p,h1,h2,h3,h4⟩:=hr
 obtain rfl:=Option.some.inj (hg.symm.trans h1)
 obtain rfl:=Option.some.inj (ht.symm.trans h2)
 have hc:=World.var?_cell h1 h3 0
 rcases q136 hu h4 with e|⟨te,pe,e⟩
 ·exact ⟨.nilIface,by rw [hc,←Array.getElem?_toList,e];rfl,.inl rfl⟩
 ·exact ⟨.iface te pe,by rw [hc,←Array.getElem?_toList,e];rfl,.inr ⟨_,_,rfl⟩⟩
theorem gw_row {W:World} (hs:W.ShapedOpen Tryz.prog) (hl:laidMetH Tryz.prog laidL W):GW W:=by
 have hl':laidMet Tryz.prog laidL W:=hl
 obtain ⟨g,t,cs,fuel,p,h1,h2,h3,h4⟩:=Lib.laidMet.reads hl' (.tail _ (.tail _ (.head _)))
 have hg : Tryz.prog.globalNamed "internal/strconv.uint64pow10" = some 5 := by kernel_rfl
 have ht:(Tryz.prog.globals[5]?).map (·.type)=some 340:=by kernel_rfl
 obtain rfl:=Option.some.inj (hg.symm.trans h1)
 obtain rfl:=Option.some.inj (ht.symm.trans h2)
 have hd:(Rows.laid_internal_strconv_uint64pow10:DataW Unit)=Lib.tabData .u64 Lib.pow10Tab:=by rfl
 rw [hd] at h4
 have hc:=Lib.cells_of_tab (n:=20) Tryz.underlying340 Tryz.underlying55 (by kernel_rfl) (by kernel_rfl) h4
 refine ⟨Go.Proofs.cell_of_shapedOpen_int (zero:=#[.int .i64 0]) (t:=3) hs (of_decide_eq_true (by kernel_rfl)) (by kernel_rfl) rfl (by kernel_rfl) (by kernel_rfl) Tryz.underlying3,?_,
  q8t (Lib.laidMet.reads hl' (.tail _ (.tail _ (.tail _ (.tail _ (.tail _ (.head _))))))) (by kernel_rfl) (by kernel_rfl) Tryz.underlying191,
  q8t (Lib.laidMet.reads hl' (.tail _ (.tail _ (.tail _ (.tail _ (.head _)))))) (by kernel_rfl) (by kernel_rfl) Tryz.underlying191,trivial⟩
 simp only [World.var?,hg,Option.bind_some] at h3
 split at h3
 ·rename_i cs' t' fz hh
  injection h3 with h3
  subst h3
  refine ⟨t',fz,?_⟩
  rw [hh]
  congr 2
  apply Array.ext'
  rw [hc]
 ·cases h3
abbrev synS:ByteArray:=⟨#[105,110,118,97,108,105,100,32,115,121,110,116,97,120]⟩
abbrev ranS:ByteArray:=⟨#[118,97,108,117,101,32,111,117,116,32,111,102,32,114,97,110,103,101]⟩
noncomputable def lowBlk:Nat:=(World.holding Tryz.prog default ⟨#[],#[],[]⟩).heap.size
noncomputable def laidWorld (os:Os) (args:Array Value):World :=
 let w0:=World.holding Tryz.prog os ⟨#[.cells #[.string ranS] 345,.cells #[.string synS] 345],args,[]⟩
 let put (h:Array Obj) (g:Nat) (cs:Array Value):Array Obj:=h.modify g fun
  |.cells _ t frozen=>.cells cs t frozen
  |o=>o
 let ints (d:DataW Unit):Array Value:=match d with
  |.agg ds=>(ds.map fun x=>match x with|.lit (.int k z)=>Value.int k z|_=>.nilFunc).toArray
  |_=>#[]
 let pairs (d:DataW Unit):Array Value:=match d with
  |.agg ds=>(ds.map fun x=>ints x).foldl (fun a b=>a++b) #[]
  |_=>#[]
 let h1:=put w0.heap 6 (ints Rows.laid_math_bits_deBruijn32tab)
 let h2:=put h1 7 (ints Rows.laid_math_bits_deBruijn64tab)
 let h3:=put h2 5 (ints Rows.laid_internal_strconv_uint64pow10)
 let h4:=put h3 4 #[.iface 343 (.pointer (some ⟨lowBlk,0,none⟩))]
 let h5:=put h4 3 #[.iface 343 (.pointer (some ⟨lowBlk+1,0,none⟩))]
 let h6:=put h5 2 (pairs Rows.laid_unicode_utf8_acceptRanges)
 let h7:=put h6 1 (ints Rows.laid_unicode_utf8_first)
 { w0 with heap:=h7 }
theorem qno (os:Os) (args:Array Value):laidMetH Tryz.prog laidL ((laidWorld os args).forCall (fun _ _=>0) ⟨#[],args,[]⟩).memory:=by
 have h:LaidIn Tryz.prog ((laidWorld os args).forCall (fun _ _=>0) ⟨#[],args,[]⟩).memory laidL [6,7,5,2,4,lowBlk,3,lowBlk+1,1] :=
  LaidIn.of_run [6,7,5,2,4,lowBlk,3,lowBlk+1,1] 8 (by kernel_rfl) (by kernel_rfl) (by kernel_rfl) (by kernel_rfl)
 exact h.met
end Go.Proofs.YtfakibajjibjjaaGreatDoor
