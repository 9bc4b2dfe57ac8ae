/- The statement FreebusyOfMatchesSpec holds: for every argument the law returns true, and the arguments read as before. No conditions. -/
import Derived.Test.YtjlkjiifkganoaaGreatR2
import Derived.HandedShaped
import Derived.ChangeMaps5
namespace Go.Proofs.YtjlkjiifkganoaaGreat
open Go.ChangeShapes Go.WideShapes Go.ChangeAt Go.ChangeMaps Go.RowKit Go.Deep
theorem qiv {f:FuncId} {args:List V} {cargs:Array Value} {W:World} (hC:Call Tryz.prog lv X1 f args=some (.c (.bool true),[])) (hG:GW W) (hsz:cargs.size=args.length)
  (hrep:∀ (i:Nat) u x,cargs[i]?=some u→args[i]?=some x→Rep (Zw W) (fun _ _=>none) noM u x):Calls Tryz.prog f cargs W fun e W'=>e=.returned (.bool true)∧Bel W W':=by
 have ok:=q9 Tryz.prog lv X1 qjz X1_ok hC
 refine (ok.2.2 W (Zw W) (fun _ _=>none) cargs hG (fun _ _ _ h=>h) (fun _ _ _ h=>by cases h) hsz hrep).mono fun e W'=>?_
 rintro ⟨cv,Z',m',rfl,_,R,r,_⟩
 cases r with
 |c r =>
 cases r
 exact ⟨rfl,qxr.1 R.bel⟩
theorem qir:ownKnob Tryz.prog.godebug=none:=by kernel_rfl
theorem qip:laidOutB Tryz.prog=true:=by kernel_rfl
set_option maxRecDepth 100000 in
theorem qhu (H:Type) (enc:TypeId×Value→H) (W:World) (base:Nat) (args:Array Value) (ds gs:List (DataW H)) (before:List MemPlace)
  (hval:∀ (j:Nat) t v,Tryz.f3.params[j]?=some t→args[j]?=some v→Value.okWide Tryz.prog W .any base t v)
  (hW:DataW.Whole enc Tryz.prog Tryz.f3.params.toList Rows.freebusyOfMatchesSpecSpec.vars false W args.toList ds gs before) (hz:(DataW.weightsEach Tryz.prog (Tryz.f3.params.toList++Rows.freebusyOfMatchesSpecSpec.plain.varTypes Tryz.prog) (ds++gs)).all (·≤reachBytes)=true) (hsh:W.ShapedOpen Tryz.prog) :
  Calls Tryz.prog 3 args W fun e W'=>∃ v,e=.returned v∧Rows.freebusyOfMatchesSpecSpec.post enc Tryz.prog Tryz.f3 false true false false W args v W':=by
 have hW':=hW
 obtain ⟨p,q,hA,hV,_,_,_⟩:=hW
 rw [Tryz.params3] at hA hval
 obtain ⟨v0,vs0,d0,ds0,p0,q0,hargs,rfl,rfl,h0,r0⟩:=trodAll_cons hA
 obtain ⟨v1,vs1,d1,ds1,p1,q1,rfl,rfl,rfl,h1,r1⟩:=trodAll_cons r0
 obtain ⟨v2,vs2,d2,ds2,p2,q2,rfl,rfl,rfl,h2,r2⟩:=trodAll_cons r1
 obtain ⟨v3,vs3,d3,ds3,p3,q3,rfl,rfl,rfl,h3,r3⟩:=trodAll_cons r2
 obtain ⟨rfl,rfl,rfl⟩:=trodAll_nil r3
 obtain rfl:args=#[v0,v1,v2,v3]:=by cases args;simp_all
 obtain ⟨l0,m0,hl0,hw0⟩:=qkt h0 (okWide_slice Tryz.underlying22 (hval 0 22 v0 rfl rfl))
 obtain ⟨l1,m1⟩:=ql1 h1 (okWide_slice Tryz.underlying23 (hval 1 23 v1 rfl rfl))
 obtain ⟨n2,rfl,m2⟩:=qkv (w:=W) (okWide_int Tryz.underlying3 (hval 2 3 v2 rfl rfl))
 obtain ⟨n3,rfl,m3⟩:=qkv (w:=W) (okWide_int Tryz.underlying3 (hval 3 3 v3 rfl rfl))
 have hc:=qbw (qit l0 l1 n2 n3 hw0)
 refine (qiv (cargs:=#[v0,v1,.int .i64 n2,.int .i64 n3]) hc trivial rfl ?_).mono fun e W' ⟨he,hb⟩=>?_
 ·intro i u x hu hx
  match i with
  |0=>simp at hu;subst hu;injection hx with hx;subst hx;exact m0
  |1=>simp at hu;subst hu;injection hx with hx;subst hx;exact m1
  |2=>simp at hu;subst hu;injection hx with hx;subst hx;exact m2
  |3=>simp at hu;subst hu;injection hx with hx;subst hx;exact m3
  |i+4=>simp at hu
 subst he
 exact ⟨_,rfl,qiw (tb:=4) qip (by kernel_rfl) rfl Tryz.underlying4 rfl rfl hW' hb⟩
set_option maxRecDepth 100000 in
theorem qiq (os:Os) (started:os.Started) (H:Type) (enc:TypeId×Value→H) :
  ReturnsInHanded {} Tryz.checked os 3 .any (Rows.freebusyOfMatchesSpecSpec.pre6 enc Tryz.prog Tryz.f3 Rows.freebusyOfMatchesSpecRow.domain false) (Rows.freebusyOfMatchesSpecSpec.post enc Tryz.prog Tryz.f3 false true false false):=by
 refine returnsInHanded_of_change_shaped (C:=Tryz.checked) qir started (by kernel_rfl) Tryz.func3
  (ChangeSpec.witness6 (enc:=enc) (C:=Tryz.checked) false ⟨#[],#[.slice none 0 0,.slice none 0 0,.int .i64 0,.int .i64 0],[]⟩ 8 (by kernel_rfl) (by kernel_rfl) (by kernel_rfl) (by kernel_rfl)) ?_
 intro W base args ds gs before hval hW _ hz hsh _
 exact qhu H enc W base args ds gs before hval hW hz hsh
theorem law37_holds:Rows.FreebusyOfMatchesSpecSaid :=
 OpenClaim.holds_of_wide 3 Tryz.f3 rfl rfl rfl rfl rfl rfl rfl ⟨rfl,rfl,rfl,rfl,rfl⟩ rfl rfl rfl rfl rfl (by kernel_rfl) Tryz.func3 (by kernel_rfl)
  (of_decide_eq_true (by kernel_rfl)) (by unfold Func.isWrapper;first|(rw [if_pos (by decide +kernel)];kernel_rfl)|(rw [if_neg (by decide +kernel)];exact ⟨rfl,rfl⟩))
  (fun os started H enc _=>qiq os started H enc)
end Go.Proofs.YtjlkjiifkganoaaGreat
