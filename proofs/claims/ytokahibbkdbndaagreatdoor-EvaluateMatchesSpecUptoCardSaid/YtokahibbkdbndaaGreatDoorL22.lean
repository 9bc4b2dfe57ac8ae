/- Statement 22: the row and its card. -/
import Derived.Test.YtokahibbkdbndaaGreatDoorZ39
import Derived.Test.YtokahibbkdbndaaGreatDoorZ42
import Derived.Test.YtokahibbkdbndaaGreatDoorR4
import Derived.Test.YtokahibbkdbndaaGreatDoorR5
import Derived.Test.YtokahibbkdbndaaGreatDoorTie
import Derived.Test.YtokahibbkdbndaaGreatDoorCards
namespace Go.Proofs.YtokahibbkdbndaaGreatDoor
open Go.ChangeShapes Go.WideShapes Go.ChangeAt Go.ChangeMaps Go.RowKit Go.Deep
set_option maxRecDepth 100000 in
theorem q1mz (H:Type) (enc:TypeId×Value→H) (W:World) (base:Nat) (args:Array Value) (ds gs:List (DataW H)) (before:List MemPlace)
  (hval:∀ (j:Nat) t v,Tryz.f3.params[j]?=some t→args[j]?=some v→Value.okWide Tryz.prog W .any base t v)
  (hW:DataW.Whole enc Tryz.prog Tryz.f3.params.toList Rows.evaluateMatchesSpecSpec.vars false W args.toList ds gs before) (hk:Rows.uptoSmall H (ds++gs)=true) (hG:GW W) :
  Calls Tryz.prog 3 args W fun e W'=>∃ v,e=.returned v∧Rows.evaluateMatchesSpecSpec.post enc Tryz.prog Tryz.f3 false true false false W args v W':=by
 have hW':=hW
 obtain ⟨p,q,hA,hV,_,_,_⟩:=hW
 obtain ⟨rfl,rfl⟩:=trodVars_none hV
 rw [Tryz.params3] at hA hval
 obtain ⟨v0,v1,d0,d1,p0,p1,hargs,rfl,rfl,h0,h1⟩:=trodAll_two hA
 subst hargs
 have hbk:=q7z hk
 simp [Rows.uptoBulkAll] at hbk
 obtain ⟨l0,rc0,ok0,len0⟩:=qvs (okWide_slice Tryz.underlying22 (hval 0 22 v0 rfl rfl)) (by omega) h0
 obtain ⟨f1,to1,e1,fs1,bd1,rm1,lo1,lf1⟩:=qvp (okWide_struct Tryz.underlying31 (hval 1 31 v1 rfl rfl)) (by omega) h1
 have hc:=qjm (specLaw (lo1.mok ok0 (by unfold big;omega)) e1 fs1)
 obtain ⟨hsz,hrep⟩:=RepA.get (us:=[v0,v1]) (xs:=_) (W:=W) (show RepA W _ [_,_] from ⟨.c rc0,rm1,trivial⟩)
 refine (qrq (cargs:=#[v0,v1]) hc hG rfl ?_).mono fun e W' ⟨he,hb⟩=>?_
 ·intro i u x hu hx
  exact hrep i u x (by simpa using hu) hx
 subst he
 exact ⟨_,rfl,qrr (tb:=4) qo (by kernel_rfl) rfl Tryz.underlying4 rfl rfl hW' hb⟩
theorem q1n3 (os:Os) {H:Type} (enc:TypeId×Value→H) :
  (Rows.OpenSpec.upto Rows.evaluateMatchesSpecSpec).preRow enc Tryz.prog Tryz.f3 Rows.evaluateMatchesSpecUptoRow.domain false laidL ((laidWorld os #[.slice none 0 0,.agg #[.string ⟨#[]⟩,.slice none 0 0,.string ⟨#[]⟩,.slice none 0 0,.slice none 0 0]]).forCall (fun _ _=>0) ⟨#[],#[.slice none 0 0,.agg #[.string ⟨#[]⟩,.slice none 0 0,.string ⟨#[]⟩,.slice none 0 0,.slice none 0 0]],[]⟩).memory #[.slice none 0 0,.agg #[.string ⟨#[]⟩,.slice none 0 0,.string ⟨#[]⟩,.slice none 0 0,.slice none 0 0]]:=by
 have hw:(DataW.whole enc Tryz.prog ((laidWorld os #[.slice none 0 0,.agg #[.string ⟨#[]⟩,.slice none 0 0,.string ⟨#[]⟩,.slice none 0 0,.slice none 0 0]]).forCall (fun _ _=>0) ⟨#[],#[.slice none 0 0,.agg #[.string ⟨#[]⟩,.slice none 0 0,.string ⟨#[]⟩,.slice none 0 0,.slice none 0 0]],[]⟩).memory Tryz.f3.params.toList (Rows.OpenSpec.upto Rows.evaluateMatchesSpecSpec).vars false (#[.slice none 0 0,.agg #[.string ⟨#[]⟩,.slice none 0 0,.string ⟨#[]⟩,.slice none 0 0,.slice none 0 0]]:Array Value).toList 8).map (fun x=>(x.1,x.2.1)) =
   some ([.nil,.agg [.agg [.lit (.string []),.nil,.lit (.string [])],.agg [.nil,.nil]]],[]):=by kernel_rfl
 obtain ⟨⟨x1,x2,x3⟩,hx,hx1⟩:=Option.map_eq_some_iff.1 hw
 simp only [Prod.mk.injEq] at hx1
 obtain ⟨rfl,rfl⟩:=hx1
 exact OpenSpec.preRow_of_cond 8 hx (by kernel_rfl) (fun k hk=>by cases hk;kernel_rfl) (by kernel_rfl) (qrj os _)
set_option maxRecDepth 100000 in
theorem q1n1 (os:Os) (started:os.Started) (H:Type) (enc:TypeId×Value→H) (F:Stop.Interp) :
  ReturnsInHanded {} Tryz.checked os 3 .any ((Rows.OpenSpec.upto Rows.evaluateMatchesSpecSpec).preRow enc Tryz.prog Tryz.f3 Rows.evaluateMatchesSpecUptoRow.domain false laidL) (((Rows.OpenSpec.upto Rows.evaluateMatchesSpecSpec).at F).post enc Tryz.prog Tryz.f3 false true false false):=by
 refine returnsInHanded_of_row (C:=Tryz.checked) (s:=Rows.OpenSpec.upto Rows.evaluateMatchesSpecSpec) qp started (by kernel_rfl) Tryz.func3
  (witness_row_at (enc:=enc) (C:=Tryz.checked) false (laidWorld os #[.slice none 0 0,.agg #[.string ⟨#[]⟩,.slice none 0 0,.string ⟨#[]⟩,.slice none 0 0,.slice none 0 0]]) #[.slice none 0 0,.agg #[.string ⟨#[]⟩,.slice none 0 0,.string ⟨#[]⟩,.slice none 0 0,.slice none 0 0]] rfl (by kernel_rfl) (by kernel_rfl) (by kernel_rfl) (q1n3 os enc)) ?_
 intro W base args ds gs before hval hW _ hk _ hL hS _
 exact q1mz H enc W base args ds gs before hval hW (hk _ rfl) (gw_row hS hL)
theorem q1n0:joinedFacts Tryz.pinned.checked.prog 3 Tryz.f3 (Rows.OpenSpec.upto Rows.evaluateMatchesSpecSpec).bare Rows.evaluateMatchesSpecUptoRow=true:=by
 have hl:(Rows.evaluateMatchesSpecUptoRow.lifted==Tryz.pinned.checked.prog.liftsFinal)=true:=fLift
 have hm:(Tryz.pinned.checked.prog.make==some Rows.evaluateMatchesSpecUptoRow.make)=true:=fMake
 unfold joinedFacts
 rw [hl,hm,fMay]
 decide +kernel
theorem q1n2:Rows.EvaluateMatchesSpecUptoSaid :=
 OpenClaim.holds_of_cond 3 Tryz.f3 rfl rfl rfl rfl rfl rfl rfl ⟨rfl,rfl,rfl,rfl,rfl⟩ rfl rfl rfl rfl rfl (by kernel_rfl) Tryz.func3 q1n0
  (of_decide_eq_true (by kernel_rfl)) (by unfold Func.isWrapper;first|(rw [if_pos (by decide +kernel)];kernel_rfl)|(rw [if_neg (by decide +kernel)];exact ⟨rfl,rfl⟩))
  (fun os started H enc _ F=>by rw [OpenClaim.pre_eq_preRow];exact q1n1 os started H enc F)
theorem law22_holds:Rows.EvaluateMatchesSpecUptoCardSaid :=
 Claim7.holds_tied_plain_at .later [] [.data, .data, .data] true (true, "b00a288ae26c19b1c69d48304217fb75c8ecdea4627290165c80941d2d673c9c") false
  q1n2 (fun _ h=>by cases h) (by kernel_rfl) (fun _ h=>by cases h) evaluateMatchesSpecUpto_row_tie rfl ⟨rfl,rfl⟩ fMain rfl
  (fun f fn hf hfn=>by
   obtain rfl : f = 3 := Option.some.inj ((show Tryz.prog.funcNamed "posthouse/posthouselaw6.EvaluateMatchesSpec" = some 3 by kernel_rfl).symm.trans hf) |>.symm
   obtain rfl:fn=Tryz.f3:=(Option.some.inj (Tryz.func3.symm.trans hfn)).symm
   refine ⟨fLooks,fun j t ht=>?_⟩
   rw [Tryz.params3] at ht
   rcases j with _|j
   ·obtain rfl:t=22:=by simpa using ht.symm
    exact (show Tryz.prog.wantsStandIn 22=false by kernel_rfl)
   rcases j with _|j
   ·obtain rfl:t=31:=by simpa using ht.symm
    exact (show Tryz.prog.wantsStandIn 31=false by kernel_rfl)
   ·simp at ht)
  (by kernel_rfl)
end Go.Proofs.YtokahibbkdbndaaGreatDoor
