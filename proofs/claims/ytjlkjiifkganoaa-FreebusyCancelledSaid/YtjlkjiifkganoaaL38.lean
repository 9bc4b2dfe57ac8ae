/- The statement FreebusyCancelled holds: for every argument the law returns true, and the arguments read as before. No conditions. -/
import Derived.Test.YtjlkjiifkganoaaZ30
import Derived.Test.YtjlkjiifkganoaaZ31
import Derived.HandedShaped
import Derived.ChangeMaps5
namespace Go.Proofs.Ytjlkjiifkganoaa
set_option linter.unusedSimpArgs false
open Go.ChangeShapes Go.WideShapes Go.ChangeAt Go.ChangeMaps Go.RowKit Go.Deep
theorem qiv {f:FuncId} {args:List V} {cargs:Array Value} {W:World} (hC:Call Try.prog lv X1 f args=some (.c (.bool true),[])) (hG:GW W) (hsz:cargs.size=args.length)
  (hrep:∀ (i:Nat) u x,cargs[i]?=some u→args[i]?=some x→Rep (Zw W) (fun _ _=>none) noM u x):Calls Try.prog f cargs W fun e W'=>e=.returned (.bool true)∧Bel W W':=by
 have ok:=q9 Try.prog lv X1 qjz X1_ok hC
 refine (ok.2.2 W (Zw W) (fun _ _=>none) cargs hG (fun _ _ _ h=>h) (fun _ _ _ h=>by cases h) hsz hrep).mono fun e W'=>?_
 rintro ⟨cv,Z',m',rfl,_,R,r,_⟩
 cases r with
 |c r =>
 cases r
 exact ⟨rfl,qxr.1 R.bel⟩
theorem q12m:ownKnob Try.prog.godebug=none:=by kernel_rfl
theorem q12k:laidOutB Try.prog=true:=by kernel_rfl
set_option maxRecDepth 100000 in
theorem q122 (H:Type) (enc:TypeId×Value→H) (W:World) (base:Nat) (args:Array Value) (ds gs:List (DataW H)) (before:List MemPlace)
  (hval:∀ (j:Nat) t v,Try.f3.params[j]?=some t→args[j]?=some v→Value.okWide Try.prog W .any base t v)
  (hW:DataW.Whole enc Try.prog Try.f3.params.toList Rows.freebusyCancelledSpec.vars false W args.toList ds gs before) (hz:(DataW.weightsEach Try.prog (Try.f3.params.toList++Rows.freebusyCancelledSpec.plain.varTypes Try.prog) (ds++gs)).all (·≤reachBytes)=true) (hsh:W.ShapedOpen Try.prog) :
  Calls Try.prog 3 args W fun e W'=>∃ v,e=.returned v∧Rows.freebusyCancelledSpec.post enc Try.prog Try.f3 false true false false W args v W':=by
 have hW':=hW
 obtain ⟨p,q,hA,hV,_,_,_⟩:=hW
 rw [Try.params3] at hA hval
 obtain ⟨v0,vs0,d0,ds0,p0,q0,hargs,rfl,rfl,h0,r0⟩:=trodAll_cons hA
 obtain ⟨v1,vs1,d1,ds1,p1,q1,rfl,rfl,rfl,h1,r1⟩:=trodAll_cons r0
 obtain ⟨v2,vs2,d2,ds2,p2,q2,rfl,rfl,rfl,h2,r2⟩:=trodAll_cons r1
 obtain ⟨v3,vs3,d3,ds3,p3,q3,rfl,rfl,rfl,h3,r3⟩:=trodAll_cons r2
 obtain ⟨v4,vs4,d4,ds4,p4,q4,rfl,rfl,rfl,h4,r4⟩:=trodAll_cons r3
 obtain ⟨rfl,rfl,rfl⟩:=trodAll_nil r4
 obtain rfl:args=#[v0,v1,v2,v3,v4]:=by cases args;simp_all
 obtain ⟨l0,m0,hl0,hw0⟩:=qkt h0 (okWide_slice Try.underlying22 (hval 0 22 v0 rfl rfl))
 obtain ⟨l1,m1⟩:=ql1 h1 (okWide_slice Try.underlying23 (hval 1 23 v1 rfl rfl))
 obtain ⟨n2,rfl,m2⟩:=qkv (w:=W) (okWide_int Try.underlying3 (hval 2 3 v2 rfl rfl))
 obtain ⟨n3,rfl,m3⟩:=qkv (w:=W) (okWide_int Try.underlying3 (hval 3 3 v3 rfl rfl))
 obtain ⟨n4,rfl,m4⟩:=qkv (w:=W) (okWide_int Try.underlying3 (hval 4 3 v4 rfl rfl))
 have hc:=qbw (q12o l0 l1 n2 n3 n4 hw0 (Nat.le_trans hl0 (by decide)))
 refine (qiv (cargs:=#[v0,v1,.int .i64 n2,.int .i64 n3,.int .i64 n4]) hc trivial rfl ?_).mono fun e W' ⟨he,hb⟩=>?_
 ·intro i u x hu hx
  match i with
  |0=>simp at hu;subst hu;injection hx with hx;subst hx;exact m0
  |1=>simp at hu;subst hu;injection hx with hx;subst hx;exact m1
  |2=>simp at hu;subst hu;injection hx with hx;subst hx;exact m2
  |3=>simp at hu;subst hu;injection hx with hx;subst hx;exact m3
  |4=>simp at hu;subst hu;injection hx with hx;subst hx;exact m4
  |i+5=>simp at hu
 subst he
 exact ⟨_,rfl,qiw (tb:=4) q12k (by kernel_rfl) rfl Try.underlying4 rfl rfl hW' hb⟩
set_option maxRecDepth 100000 in
theorem q12l (os:Os) (started:os.Started) (H:Type) (enc:TypeId×Value→H) :
  ReturnsInHanded {} Try.checked os 3 .any (Rows.freebusyCancelledSpec.pre6 enc Try.prog Try.f3 Rows.freebusyCancelledRow.domain false) (Rows.freebusyCancelledSpec.post enc Try.prog Try.f3 false true false false):=by
 refine returnsInHanded_of_change_shaped (C:=Try.checked) q12m started (by kernel_rfl) Try.func3
  (ChangeSpec.witness6 (enc:=enc) (C:=Try.checked) false ⟨#[],#[.slice none 0 0,.slice none 0 0,.int .i64 0,.int .i64 0,.int .i64 0],[]⟩ 8 (by kernel_rfl) (by kernel_rfl) (by kernel_rfl) (by kernel_rfl)) ?_
 intro W base args ds gs before hval hW _ hz hsh _
 exact q122 H enc W base args ds gs before hval hW hz hsh
theorem law38_holds:Rows.FreebusyCancelledSaid :=
 OpenClaim.holds_of_wide 3 Try.f3 rfl rfl rfl rfl rfl rfl rfl ⟨rfl,rfl,rfl,rfl,rfl⟩ rfl rfl rfl rfl rfl (by kernel_rfl) Try.func3 (by kernel_rfl)
  (of_decide_eq_true (by kernel_rfl)) (by unfold Func.isWrapper;first|(rw [if_pos (by decide +kernel)];kernel_rfl)|(rw [if_neg (by decide +kernel)];exact ⟨rfl,rfl⟩))
  (fun os started H enc _=>q12l os started H enc)
end Go.Proofs.Ytjlkjiifkganoaa
