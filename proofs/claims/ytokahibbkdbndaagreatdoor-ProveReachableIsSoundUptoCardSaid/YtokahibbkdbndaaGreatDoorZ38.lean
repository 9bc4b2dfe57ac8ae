/- The rules on the heap are sound. -/
import Derived.Test.YtokahibbkdbndaaGreatDoorZ37
import Derived.Test.YtokahibbkdbndaaGreatDoorZ36
import Derived.HandedShaped
import Derived.ChangeMaps5
import Derived.Deep.DeepHandedRow
import Derived.Lib.LaidU8
import Derived.Lib.LaidIn
namespace Go.Proofs.YtokahibbkdbndaaGreatDoor
open Go.RowKit
theorem argsD {cargs:Array Value} (hs:cargs.size=2):cargs=#[cargs.getD 0 undef,cargs.getD 1 undef]:=by
 apply Array.ext (by simpa using hs)
 intro i h1 h2
 match i,h1 with
 | 0,h1=>simp [Array.getD,h1]
 | 1,h1=>simp [Array.getD,h1]
 | i+2,h1=>omega
theorem qel (st:St) (vs:List V) (s1:St) (h:expX.run (List V × St) st some=some (vs,s1)):RuleOk Tryz.prog 81 2 st vs s1:=by
 unfold expX at h
 simp only at h
 split at h
 case h_2=>cases h
 rename_i id a e0 e1
 split at h
 case h_2=>cases h
 rename_i cs hcs
 split at h
 case h_2=>cases h
 rename_i j hj
 split at h
 case h_2=>cases h
 rename_i l hl
 cases hp:expP l a with
 | none=>rw [hp] at h;cases h
 | some r =>
 rw [hp] at h
 injection h with h
 injection h with h1 h2
 subst h1 h2
 intro G w0 w Z Y m cargs R hm hG hs hr
 have r0:=hr 0
 have r1:=hr 1
 rw [e0] at r0
 rw [e1] at r1
 rw [argsD hs]
 rw [qt7 r1]
 generalize cargs.getD 0 undef=u0 at r0
 cases r0 with
 | ptr _ _ g hmi =>
 obtain ⟨g',hm',hb⟩:=R.box id cs hcs
 rw [hmi] at hm'
 injection hm' with hm';injection hm' with hm';injection hm' with hm';injection hm' with hm'
 subst hm'
 obtain ⟨t,ws,hw,hrep⟩:=hb.ex
 cases hrep with
 | agg _ _ hlen h1 hcell =>
 have h6:cs[6]?=some (.mp j):=by
  rw [List.getD_eq_getElem?_getD] at hj
  cases h6:cs[6]? with
  | none=>rw [h6] at hj;cases hj
  | some v=>rw [h6] at hj;exact congrArg some hj
 obtain ⟨hlt,hel⟩:=List.getElem?_eq_some_iff.1 h6
 have hw6:ws[6]?=some (ws[6]'(by omega)):=Array.getElem?_eq_getElem (by omega)
 have r6:=hcell 6 _ _ hw6 h6
 generalize ws[6]'(by omega)=u6 at hw6 r6
 cases r6 with
 | mp _ b hmj =>
 obtain ⟨b',hm',hat⟩:=R.mp j l hl
 rw [hmj] at hm'
 injection hm' with hm';injection hm' with hm';injection hm' with hm'
 subst hm'
 have hown:=hat.owns (P:=Tryz.prog) (k:=9) Tryz.underlying9
 have hcl:w.cell? ⟨g,6,none⟩=some (.map (some b)):=by simp only [World.cell?,hw];exact hw6
 obtain ⟨ml,hml⟩:=gw_ml (BelA.gw R.bel R.gw)
 unfold expP at hp
 split at hp
 case isFalse=>cases hp
 rename_i hsz
 cases hq:expF l (a.size+1) a.data.toList [] with
 | none=>rw [hq] at hp;cases hp
 | some o =>
 rw [hq] at hp
 injection hp with hp
 subst hp
 refine (qem g b l.length ml l a w o hsz hml hcl hown hq).mono fun e w'=>?_
 rintro ⟨rfl,hb⟩
 exact ⟨_,Z,m,rfl,ZUp.refl,R.later (bel_of hb),.c (.str _),hG,hm⟩
theorem qiq {w w':World} {g:Nat} (h:w.grownBy w' (some g)) (hg:g<w.heap.size):∃ w1,Wr g w w1∧Bel w1 w'∧w1.heap[g]?=w'.heap[g]?:=by
 have hg':g<w'.heap.size:=Nat.lt_of_lt_of_le hg h.size
 refine ⟨{ w' with heap:=w.heap.setIfInBounds g w'.heap[g] },⟨h.os,h.tape,h.output,by simp,fun k hk=>?_⟩,⟨rfl,rfl,rfl,by simpa using h.size,fun k hk=>?_⟩,?_⟩
 ·show (w.heap.setIfInBounds g w'.heap[g])[k]?=_
  rw [Array.getElem?_setIfInBounds_ne (Ne.symm hk)]
 ·show w'.heap[k]?=(w.heap.setIfInBounds g w'.heap[g])[k]?
  have hk:k<w.heap.size:=by simpa using hk
  by_cases e:k=g
  ·subst e
   rw [Array.getElem?_setIfInBounds_self_of_lt hg,Array.getElem?_eq_getElem hg']
  ·rw [Array.getElem?_setIfInBounds_ne (Ne.symm e)]
   exact h.block k hk (fun e2=>e (by injection e2))
 ·show (w.heap.setIfInBounds g w'.heap[g])[g]?=_
  rw [Array.getElem?_setIfInBounds_self_of_lt hg,Array.getElem?_eq_getElem hg']
theorem q8y (st:St) (vs:List V) (s1:St) (h:(delX 133).run (List V × St) st some=some (vs,s1)):RuleOk Tryz.prog 132 2 st vs s1:=by
 unfold delX at h
 simp only at h
 split at h
 case h_2=>cases h
 rename_i j f e0 e1
 cases hf:f==133 with
 | false=>rw [hf] at h;cases h
 | true =>
 rw [hf,cond_true] at h
 have hf':f=133:=by simpa using hf
 subst hf'
 split at h
 case h_2=>cases h
 rename_i l hl
 cases hp:delP l with
 | none=>rw [hp] at h;cases h
 | some l' =>
 rw [hp] at h
 injection h with h
 injection h with h1 h2
 subst h1 h2
 unfold delP at hp
 split at hp
 case isFalse=>cases hp
 rename_i hall
 injection hp with hp
 subst hp
 intro G w0 w Z Y m cargs R hm hG hs hr
 have r0:=hr 0
 have r1:=hr 1
 rw [e0] at r0
 rw [e1] at r1
 rw [argsD hs]
 generalize cargs.getD 0 undef=u0 at r0
 generalize cargs.getD 1 undef=u1 at r1
 cases r0 with
 | mp _ b hmj =>
 have hu1:u1=.func (.func 133) #[] #[]:=by
  cases r1 with
  | fn _ cs _ hlen _ _ =>
   have:cs=#[]:=Array.size_eq_zero_iff.1 (by simpa using hlen)
   rw [this]
 subst hu1
 obtain ⟨b',hm',hat⟩:=R.mp j l hl
 rw [hmj] at hm'
 injection hm' with hm';injection hm' with hm';injection hm' with hm'
 subst hm'
 have hown:=hat.owns (P:=Tryz.prog) (k:=9) Tryz.underlying9
 refine (q8z b l.length l w hown (fun p hp=>of_decide_eq_true (List.all_eq_true.1 hall p hp))).mono fun e w'=>?_
 rintro ⟨rfl,ho,hg⟩
 obtain ⟨l2,hl2,hat2,_⟩:=MapAt.of_owns (base:=w0.own) hat.base Tryz.underlying9 ho
 have:=q8m hl2
 subst this
 obtain ⟨w1,hw1,hb1,he1⟩:=qiq hg hown.lt
 have hat1:MapAt w0.own w1 b (l.filter fun p=>!digP p.1):=by
  obtain ⟨es,clock,q1,q2⟩:=hat2.ex
  exact ⟨hat2.base,es,clock,by rw [he1];exact q1,q2⟩
 have R1:=(R.write_map hl hmj hw1 hat1).later hb1
 exact ⟨_,Z,m,rfl,ZUp.refl,R1,.tup _ _ rfl (fun i u x hu _=>by simp at hu),hG,hm⟩
theorem X0_ok:XOk Tryz.prog X0:=by
 refine ⟨X0c_ok,fun f R st vs s1 hf0 h=>?_⟩
 have hf:X0h f=some R:=hf0
 clear hf0
 unfold X0h at hf
 cases h1:f==81 with
 | true =>
  rw [h1,cond_true] at hf
  injection hf with hR
  have hf':f=81:=by simpa using h1
  subst hR
  subst hf'
  exact qel st vs s1 h
 | false =>
 rw [h1,cond_false] at hf
 cases h2:f==132 with
 | true =>
  rw [h2,cond_true] at hf
  injection hf with hR
  have hf':f=132:=by simpa using h2
  subst hR
  subst hf'
  exact q8y st vs s1 h
 | false =>
 rw [h2,cond_false] at hf
 cases hf
end Go.Proofs.YtokahibbkdbndaaGreatDoor
namespace Go.Proofs.YtokahibbkdbndaaGreatDoor
open Go.ChangeShapes Go.WideShapes Go.ChangeAt Go.ChangeMaps Go.RowKit Go.Deep
theorem moR_ok:Tryz.prog.follows .mixedOrders=true:=by kernel_rfl
theorem qme {f:FuncId} {args:List V} {cargs:Array Value} {W:World} (hC:Call Tryz.prog lv X0 f args=some (.c (.bool true),[])) (hG:GW W) (hsz:cargs.size=args.length)
  (hrep:∀ (i:Nat) u x,cargs[i]?=some u→args[i]?=some x→Rep (Zw W) (fun _ _=>none) noM u x):Calls Tryz.prog f cargs W fun e W'=>e=.returned (.bool true)∧Bel W W':=by
 have ok:=qe Tryz.prog lv X0 moR_ok X0_ok hC
 refine (ok.2.2 W (Zw W) (fun _ _=>none) cargs hG (fun _ _ _ h=>h) (fun _ _ _ h=>by cases h) hsz hrep).mono fun e W'=>?_
 rintro ⟨cv,Z',m',rfl,_,R,r,_⟩
 cases r with
 | c r =>
 cases r
 exact ⟨rfl,wb_bel.1 R.bel⟩
def RepA (W:World):List Value→List V→Prop
 | [],[]=>True
 | u::us,x::xs=>Rep (Zw W) (fun _ _=>none) noM u x∧RepA W us xs
 | _,_=>False
theorem RepA.get {W:World}:∀ {us:List Value} {xs:List V},RepA W us xs→us.length=xs.length∧∀ (i:Nat) u x,us[i]?=some u→xs[i]?=some x→Rep (Zw W) (fun _ _=>none) noM u x
 | [],[],_=>⟨rfl,fun i u x h _=>by simp at h⟩
 | u::us,x::xs,h=>by
  obtain ⟨h1,h2⟩:=RepA.get h.2
  refine ⟨by simp [h1],fun i u' x' hu hx=>?_⟩
  cases i with
  | zero=>simp at hu hx;subst hu hx;exact h.1
  | succ i=>simp at hu hx;exact h2 i u' x' hu hx
 | [],_::_,h=>h.elim
 | _::_,[],h=>h.elim
def laidL : List (String × DataW Unit) := [("math/bits.deBruijn32tab", Rows.laid_math_bits_deBruijn32tab), ("math/bits.deBruijn64tab", Rows.laid_math_bits_deBruijn64tab), ("internal/strconv.uint64pow10", Rows.laid_internal_strconv_uint64pow10)]
theorem gw_row {W:World} (hs:W.ShapedOpen Tryz.prog) (hl:laidMetH Tryz.prog laidL W):GW W:=by
 have hl':laidMet Tryz.prog laidL W:=hl
 obtain ⟨g,t,cs,fuel,p,h1,h2,h3,h4⟩:=Lib.laidMet.reads hl' (.tail _ (.tail _ (.head _)))
 have hg : Tryz.prog.globalNamed "internal/strconv.uint64pow10" = some 1 := by kernel_rfl
 have ht:(Tryz.prog.globals[1]?).map (·.type)=some 213:=by kernel_rfl
 obtain rfl:=Option.some.inj (hg.symm.trans h1)
 obtain rfl:=Option.some.inj (ht.symm.trans h2)
 have hd:(Rows.laid_internal_strconv_uint64pow10:DataW Unit)=Lib.tabData .u64 Lib.pow10Tab:=by rfl
 rw [hd] at h4
 have hc:=Lib.cells_of_tab (n:=20) Tryz.underlying213 Tryz.underlying199 (by kernel_rfl) (by kernel_rfl) h4
 refine ⟨laysM144.s1_3 W hs,?_,trivial⟩
 simp only [World.var?,hg,Option.bind_some] at h3
 split at h3
 ·rename_i cs' t' fz hh
  injection h3 with h3
  subst h3
  refine ⟨t',fz,?_⟩
  rw [hh]
  congr 2
  apply Array.ext'
  rw [hc]
 ·cases h3
noncomputable def laidWorld (os:Os) (args:Array Value):World :=
 let w0:=World.holding Tryz.prog os ⟨#[],args,[]⟩
 let put (h:Array Obj) (g:Nat) (cs:Array Value):Array Obj:=h.modify g fun
  | .cells _ t frozen=>.cells cs t frozen
  | o=>o
 let ints (d:DataW Unit):Array Value:=match d with
  | .agg ds=>(ds.map fun x=>match x with | .lit (.int k z)=>Value.int k z | _=>.nilFunc).toArray
  | _=>#[]
 let h1:=put w0.heap 2 (ints Rows.laid_math_bits_deBruijn32tab)
 let h2:=put h1 3 (ints Rows.laid_math_bits_deBruijn64tab)
 let h3:=put h2 1 (ints Rows.laid_internal_strconv_uint64pow10)
 { w0 with heap:=h3 }
theorem qm7 (os:Os) (args:Array Value):laidMetH Tryz.prog laidL ((laidWorld os args).forCall (fun _ _=>0) ⟨#[],args,[]⟩).memory:=by
 have h:LaidIn Tryz.prog ((laidWorld os args).forCall (fun _ _=>0) ⟨#[],args,[]⟩).memory laidL [2,3,1] :=
  LaidIn.of_run [2,3,1] 8 (by kernel_rfl) (by kernel_rfl) (by kernel_rfl) (by kernel_rfl)
 exact h.met
end Go.Proofs.YtokahibbkdbndaaGreatDoor
