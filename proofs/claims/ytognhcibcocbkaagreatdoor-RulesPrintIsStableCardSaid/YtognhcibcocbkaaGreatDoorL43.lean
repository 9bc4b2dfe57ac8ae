/- Statement 43: the row and its card: for every input (no condition on sizes). -/
import Derived.Test.YtognhcibcocbkaaGreatDoorZ33
import Derived.Test.YtognhcibcocbkaaGreatDoorZ36
import Derived.Test.YtognhcibcocbkaaGreatDoorR4
import Derived.Test.YtognhcibcocbkaaGreatDoorR5
import Derived.Test.YtognhcibcocbkaaGreatDoorTie
import Derived.Test.YtognhcibcocbkaaGreatDoorCards
namespace Go.Proofs.YtognhcibcocbkaaGreatDoor
open Go.ChangeShapes Go.WideShapes Go.ChangeAt Go.ChangeMaps Go.RowKit Go.Deep
set_option maxRecDepth 100000 in
theorem q179 (H:Type) (enc:TypeId×Value→H) (W:World) (base:Nat) (args:Array Value) (ds gs:List (DataW H)) (before:List MemPlace)
  (hval:∀ (j:Nat) t v,Tryz.f6.params[j]?=some t→args[j]?=some v→Value.okWide Tryz.prog W .any base t v)
  (hW:DataW.Whole enc Tryz.prog Tryz.f6.params.toList Rows.rulesPrintIsStableSpec.vars false W args.toList ds gs before) (hz:(DataW.weightsEach Tryz.prog (Tryz.f6.params.toList++(OpenSpec.ofChange Rows.rulesPrintIsStableSpec).bare.plain.varTypes Tryz.prog) (ds++gs)).all (·≤reachBytes)=true) (hG:GW W) :
  Calls Tryz.prog 6 args W fun e W'=>∃ v,e=.returned v∧Rows.rulesPrintIsStableSpec.post enc Tryz.prog Tryz.f6 false true false false W args v W':=by
 have hW':=hW
 obtain ⟨p,q,hA,hV,_,_,_⟩:=hW
 obtain ⟨rfl,rfl⟩:=trodVars_none hV
 rw [Tryz.params6] at hA hval
 obtain ⟨v0,d0,hargs,rfl,h0⟩:=trodAll_one hA
 subst hargs
 obtain ⟨x0,rfl,rfl⟩:=qdy (okWide_string Tryz.underlying9 (hval 0 9 v0 rfl rfl)) h0
 have hc:=q74 ((law43 x0))
 obtain ⟨hsz,hrep⟩:=RepA.get (us:=[.string x0]) (xs:=_) (W:=W) (show RepA W _ [_] from ⟨.c (.str _),trivial⟩)
 refine (qbl (cargs:=#[.string x0]) hc hG rfl ?_).mono fun e W' ⟨he,hb⟩=>?_
 ·intro i u x hu hx
  exact hrep i u x (by simpa using hu) hx
 subst he
 exact ⟨_,rfl,qbm (tb:=4) qj (by kernel_rfl) rfl Tryz.underlying4 rfl rfl hW' hb⟩
theorem q17d (os:Os) {H:Type} (enc:TypeId×Value→H) :
  (OpenSpec.ofChange Rows.rulesPrintIsStableSpec).preRow enc Tryz.prog Tryz.f6 Rows.rulesPrintIsStableRow.domain false laidL ((laidWorld os #[.string ⟨#[]⟩]).forCall (fun _ _=>0) ⟨#[],#[.string ⟨#[]⟩],[]⟩).memory #[.string ⟨#[]⟩]:=by
 have hw:(DataW.whole enc Tryz.prog ((laidWorld os #[.string ⟨#[]⟩]).forCall (fun _ _=>0) ⟨#[],#[.string ⟨#[]⟩],[]⟩).memory Tryz.f6.params.toList (OpenSpec.ofChange Rows.rulesPrintIsStableSpec).vars false (#[.string ⟨#[]⟩]:Array Value).toList 8).map (fun x=>(x.1,x.2.1)) =
   some ([.lit (.string [])],[]):=by kernel_rfl
 obtain ⟨⟨x1,x2,x3⟩,hx,hx1⟩:=Option.map_eq_some_iff.1 hw
 simp only [Prod.mk.injEq] at hx1
 obtain ⟨rfl,rfl⟩:=hx1
 exact OpenSpec.preRow_of_cond 8 hx (by kernel_rfl) (fun k hk=>by cases hk) (by kernel_rfl) (qbd os _)
set_option maxRecDepth 100000 in
theorem q17b (os:Os) (started:os.Started) (H:Type) (enc:TypeId×Value→H) (F:Stop.Interp) :
  ReturnsInHanded {} Tryz.checked os 6 .any ((OpenSpec.ofChange Rows.rulesPrintIsStableSpec).preRow enc Tryz.prog Tryz.f6 Rows.rulesPrintIsStableRow.domain false laidL) (((OpenSpec.ofChange Rows.rulesPrintIsStableSpec).at F).post enc Tryz.prog Tryz.f6 false true false false):=by
 refine returnsInHanded_of_row (C:=Tryz.checked) (s:=OpenSpec.ofChange Rows.rulesPrintIsStableSpec) qk started (by kernel_rfl) Tryz.func6
  (witness_row_at (enc:=enc) (C:=Tryz.checked) false (laidWorld os #[.string ⟨#[]⟩]) #[.string ⟨#[]⟩] rfl (by kernel_rfl) (by kernel_rfl) (by kernel_rfl) (q17d os enc)) ?_
 intro W base args ds gs before hval hW _ _ hz hL hS _
 exact q179 H enc W base args ds gs before hval hW hz (gw_row hS hL)
theorem q17a:joinedFacts Tryz.pinned.checked.prog 6 Tryz.f6 (OpenSpec.ofChange Rows.rulesPrintIsStableSpec).bare Rows.rulesPrintIsStableRow=true:=by
 have hl:(Rows.rulesPrintIsStableRow.lifted==Tryz.pinned.checked.prog.liftsFinal)=true:=fLift
 have hm:(Tryz.pinned.checked.prog.make==some Rows.rulesPrintIsStableRow.make)=true:=fMake
 unfold joinedFacts
 rw [hl,hm,fMay]
 decide +kernel
theorem q17c:Rows.RulesPrintIsStableSaid :=
 OpenClaim.holds_of_cond 6 Tryz.f6 rfl rfl rfl rfl rfl rfl rfl ⟨rfl,rfl,rfl,rfl,rfl⟩ rfl rfl rfl rfl rfl (by kernel_rfl) Tryz.func6 q17a
  (of_decide_eq_true (by kernel_rfl)) (by unfold Func.isWrapper;first|(rw [if_pos (by decide +kernel)];kernel_rfl)|(rw [if_neg (by decide +kernel)];exact ⟨rfl,rfl⟩))
  (fun os started H enc _ F=>by rw [OpenClaim.pre_eq_preRow];exact q17b os started H enc F)
theorem law43_holds:Rows.RulesPrintIsStableCardSaid :=
 Claim7.holds_tied_plain_at .later [] [.data, .data, .data, .sentinel, .sentinel] true (true, "2b3a0f9d02742b67dbb8825627be8a443850f33596560507000e04c2522490ee") true
  q17c (fun _ h=>by cases h) (by kernel_rfl) (fun _ h=>by cases h) rulesPrintIsStable_row_tie rfl ⟨rfl,rfl⟩ fMain rfl
  (fun f fn hf hfn=>by
   obtain rfl : f = 6 := Option.some.inj ((show Tryz.prog.funcNamed "posthouse/posthouselaw6.RulesPrintIsStable" = some 6 by kernel_rfl).symm.trans hf) |>.symm
   obtain rfl:fn=Tryz.f6:=(Option.some.inj (Tryz.func6.symm.trans hfn)).symm
   refine ⟨fLooks,fun j t ht=>?_⟩
   rw [Tryz.params6] at ht
   rcases j with _|j
   ·obtain rfl:t=9:=by simpa using ht.symm
    exact (show Tryz.prog.wantsStandIn 9=false by kernel_rfl)
   ·simp at ht)
  (by kernel_rfl)
end Go.Proofs.YtognhcibcocbkaaGreatDoor
