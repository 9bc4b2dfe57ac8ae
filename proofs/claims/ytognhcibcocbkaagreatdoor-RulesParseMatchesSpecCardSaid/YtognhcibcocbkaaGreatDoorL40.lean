/- Statement 40: the row and its card: for every input (no condition on sizes). -/
import Derived.Test.YtognhcibcocbkaaGreatDoorZ37
import Derived.Test.YtognhcibcocbkaaGreatDoorZ40
import Derived.Test.YtognhcibcocbkaaGreatDoorR4
import Derived.Test.YtognhcibcocbkaaGreatDoorR5
import Derived.Test.YtognhcibcocbkaaGreatDoorTie
import Derived.Test.YtognhcibcocbkaaGreatDoorCards
namespace Go.Proofs.YtognhcibcocbkaaGreatDoor
open Go.ChangeShapes Go.WideShapes Go.ChangeAt Go.ChangeMaps Go.RowKit Go.Deep
set_option maxRecDepth 100000 in
theorem qbg (H:Type) (enc:TypeId×Value→H) (W:World) (base:Nat) (args:Array Value) (ds gs:List (DataW H)) (before:List MemPlace)
  (hval:∀ (j:Nat) t v,Tryz.f3.params[j]?=some t→args[j]?=some v→Value.okWide Tryz.prog W .any base t v)
  (hW:DataW.Whole enc Tryz.prog Tryz.f3.params.toList Rows.rulesParseMatchesSpecSpec.vars false W args.toList ds gs before) (hz:(DataW.weightsEach Tryz.prog (Tryz.f3.params.toList++(OpenSpec.ofChange Rows.rulesParseMatchesSpecSpec).bare.plain.varTypes Tryz.prog) (ds++gs)).all (·≤reachBytes)=true) (hG:GW W) :
  Calls Tryz.prog 3 args W fun e W'=>∃ v,e=.returned v∧Rows.rulesParseMatchesSpecSpec.post enc Tryz.prog Tryz.f3 false true false false W args v W':=by
 have hW':=hW
 obtain ⟨p,q,hA,hV,_,_,_⟩:=hW
 obtain ⟨rfl,rfl⟩:=trodVars_none hV
 rw [Tryz.params3] at hA hval
 obtain ⟨v0,d0,hargs,rfl,h0⟩:=trodAll_one hA
 subst hargs
 obtain ⟨x0,rfl,rfl⟩:=qdy (okWide_string Tryz.underlying9 (hval 0 9 v0 rfl rfl)) h0
 have hc:=q74 ((law40 x0))
 obtain ⟨hsz,hrep⟩:=RepA.get (us:=[.string x0]) (xs:=_) (W:=W) (show RepA W _ [_] from ⟨.c (.str _),trivial⟩)
 refine (qbl (cargs:=#[.string x0]) hc hG rfl ?_).mono fun e W' ⟨he,hb⟩=>?_
 ·intro i u x hu hx
  exact hrep i u x (by simpa using hu) hx
 subst he
 exact ⟨_,rfl,qbm (tb:=4) qj (by kernel_rfl) rfl Tryz.underlying4 rfl rfl hW' hb⟩
theorem qbk (os:Os) {H:Type} (enc:TypeId×Value→H) :
  (OpenSpec.ofChange Rows.rulesParseMatchesSpecSpec).preRow enc Tryz.prog Tryz.f3 Rows.rulesParseMatchesSpecRow.domain false laidL ((laidWorld os #[.string ⟨#[]⟩]).forCall (fun _ _=>0) ⟨#[],#[.string ⟨#[]⟩],[]⟩).memory #[.string ⟨#[]⟩]:=by
 have hw:(DataW.whole enc Tryz.prog ((laidWorld os #[.string ⟨#[]⟩]).forCall (fun _ _=>0) ⟨#[],#[.string ⟨#[]⟩],[]⟩).memory Tryz.f3.params.toList (OpenSpec.ofChange Rows.rulesParseMatchesSpecSpec).vars false (#[.string ⟨#[]⟩]:Array Value).toList 8).map (fun x=>(x.1,x.2.1)) =
   some ([.lit (.string [])],[]):=by kernel_rfl
 obtain ⟨⟨x1,x2,x3⟩,hx,hx1⟩:=Option.map_eq_some_iff.1 hw
 simp only [Prod.mk.injEq] at hx1
 obtain ⟨rfl,rfl⟩:=hx1
 exact OpenSpec.preRow_of_cond 8 hx (by kernel_rfl) (fun k hk=>by cases hk) (by kernel_rfl) (qbd os _)
set_option maxRecDepth 100000 in
theorem qbi (os:Os) (started:os.Started) (H:Type) (enc:TypeId×Value→H) (F:Stop.Interp) :
  ReturnsInHanded {} Tryz.checked os 3 .any ((OpenSpec.ofChange Rows.rulesParseMatchesSpecSpec).preRow enc Tryz.prog Tryz.f3 Rows.rulesParseMatchesSpecRow.domain false laidL) (((OpenSpec.ofChange Rows.rulesParseMatchesSpecSpec).at F).post enc Tryz.prog Tryz.f3 false true false false):=by
 refine returnsInHanded_of_row (C:=Tryz.checked) (s:=OpenSpec.ofChange Rows.rulesParseMatchesSpecSpec) qk started (by kernel_rfl) Tryz.func3
  (witness_row_at (enc:=enc) (C:=Tryz.checked) false (laidWorld os #[.string ⟨#[]⟩]) #[.string ⟨#[]⟩] rfl (by kernel_rfl) (by kernel_rfl) (by kernel_rfl) (qbk os enc)) ?_
 intro W base args ds gs before hval hW _ _ hz hL hS _
 exact qbg H enc W base args ds gs before hval hW hz (gw_row hS hL)
theorem qbh:joinedFacts Tryz.pinned.checked.prog 3 Tryz.f3 (OpenSpec.ofChange Rows.rulesParseMatchesSpecSpec).bare Rows.rulesParseMatchesSpecRow=true:=by
 have hl:(Rows.rulesParseMatchesSpecRow.lifted==Tryz.pinned.checked.prog.liftsFinal)=true:=fLift
 have hm:(Tryz.pinned.checked.prog.make==some Rows.rulesParseMatchesSpecRow.make)=true:=fMake
 unfold joinedFacts
 rw [hl,hm,fMay]
 decide +kernel
theorem qbj:Rows.RulesParseMatchesSpecSaid :=
 OpenClaim.holds_of_cond 3 Tryz.f3 rfl rfl rfl rfl rfl rfl rfl ⟨rfl,rfl,rfl,rfl,rfl⟩ rfl rfl rfl rfl rfl (by kernel_rfl) Tryz.func3 qbh
  (of_decide_eq_true (by kernel_rfl)) (by unfold Func.isWrapper;first|(rw [if_pos (by decide +kernel)];kernel_rfl)|(rw [if_neg (by decide +kernel)];exact ⟨rfl,rfl⟩))
  (fun os started H enc _ F=>by rw [OpenClaim.pre_eq_preRow];exact qbi os started H enc F)
theorem law40_holds:Rows.RulesParseMatchesSpecCardSaid :=
 Claim7.holds_tied_plain_at .later [] [.data, .data, .data, .sentinel, .sentinel] true (true, "2b3a0f9d02742b67dbb8825627be8a443850f33596560507000e04c2522490ee") true
  qbj (fun _ h=>by cases h) (by kernel_rfl) (fun _ h=>by cases h) rulesParseMatchesSpec_row_tie rfl ⟨rfl,rfl⟩ fMain rfl
  (fun f fn hf hfn=>by
   obtain rfl : f = 3 := Option.some.inj ((show Tryz.prog.funcNamed "posthouse/posthouselaw6.RulesParseMatchesSpec" = some 3 by kernel_rfl).symm.trans hf) |>.symm
   obtain rfl:fn=Tryz.f3:=(Option.some.inj (Tryz.func3.symm.trans hfn)).symm
   refine ⟨fLooks,fun j t ht=>?_⟩
   rw [Tryz.params3] at ht
   rcases j with _|j
   ·obtain rfl:t=9:=by simpa using ht.symm
    exact (show Tryz.prog.wantsStandIn 9=false by kernel_rfl)
   ·simp at ht)
  (by kernel_rfl)
end Go.Proofs.YtognhcibcocbkaaGreatDoor
