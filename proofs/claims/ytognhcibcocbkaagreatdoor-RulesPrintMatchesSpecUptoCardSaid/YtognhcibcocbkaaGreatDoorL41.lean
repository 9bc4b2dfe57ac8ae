/- Statement 41: the row and its card. -/
import Derived.Test.YtognhcibcocbkaaGreatDoorZ29
import Derived.Test.YtognhcibcocbkaaGreatDoorZ33
import Derived.Test.YtognhcibcocbkaaGreatDoorR4
import Derived.Test.YtognhcibcocbkaaGreatDoorR5
import Derived.Test.YtognhcibcocbkaaGreatDoorTie
import Derived.Test.YtognhcibcocbkaaGreatDoorCards
namespace Go.Proofs.YtognhcibcocbkaaGreatDoor
open Go.ChangeShapes Go.WideShapes Go.ChangeAt Go.ChangeMaps Go.RowKit Go.Deep
set_option maxRecDepth 100000 in
theorem qwj (H:Type) (enc:TypeId×Value→H) (W:World) (base:Nat) (args:Array Value) (ds gs:List (DataW H)) (before:List MemPlace)
  (hval:∀ (j:Nat) t v,Tryz.f4.params[j]?=some t→args[j]?=some v→Value.okWide Tryz.prog W .any base t v)
  (hW:DataW.Whole enc Tryz.prog Tryz.f4.params.toList Rows.rulesPrintMatchesSpecSpec.vars false W args.toList ds gs before) (hk:Rows.uptoSmall H (ds++gs)=true) (hG:GW W) :
  Calls Tryz.prog 4 args W fun e W'=>∃ v,e=.returned v∧Rows.rulesPrintMatchesSpecSpec.post enc Tryz.prog Tryz.f4 false true false false W args v W':=by
 have hW':=hW
 obtain ⟨p,q,hA,hV,_,_,_⟩:=hW
 obtain ⟨rfl,rfl⟩:=trodVars_none hV
 rw [Tryz.params4] at hA hval
 obtain ⟨v0,d0,hargs,rfl,h0⟩:=trodAll_one hA
 subst hargs
 have hbk:=q3x hk
 simp [Rows.uptoBulkAll] at hbk
 obtain ⟨l0,rc0,ok0,len0⟩:=qdv (okWide_slice Tryz.underlying22 (hval 0 22 v0 rfl rfl)) (by omega) h0
 have hc:=q6w ((law41 l0 (by have:=len0.1;unfold big;omega) ok0 (by have:=len0.2;omega)))
 obtain ⟨hsz,hrep⟩:=RepA.get (us:=[v0]) (xs:=_) (W:=W) (show RepA W _ [_] from ⟨.c rc0,trivial⟩)
 refine (qav (cargs:=#[v0]) hc hG rfl ?_).mono fun e W' ⟨he,hb⟩=>?_
 ·intro i u x hu hx
  exact hrep i u x (by simpa using hu) hx
 subst he
 exact ⟨_,rfl,qaw (tb:=4) qj (by kernel_rfl) rfl Tryz.underlying4 rfl rfl hW' hb⟩
theorem qwn (os:Os) {H:Type} (enc:TypeId×Value→H) :
  (Rows.OpenSpec.upto Rows.rulesPrintMatchesSpecSpec).preRow enc Tryz.prog Tryz.f4 Rows.rulesPrintMatchesSpecUptoRow.domain false laidL ((laidWorld os #[.slice none 0 0]).forCall (fun _ _=>0) ⟨#[],#[.slice none 0 0],[]⟩).memory #[.slice none 0 0]:=by
 have hw:(DataW.whole enc Tryz.prog ((laidWorld os #[.slice none 0 0]).forCall (fun _ _=>0) ⟨#[],#[.slice none 0 0],[]⟩).memory Tryz.f4.params.toList (Rows.OpenSpec.upto Rows.rulesPrintMatchesSpecSpec).vars false (#[.slice none 0 0]:Array Value).toList 8).map (fun x=>(x.1,x.2.1)) =
   some ([.nil],[]):=by kernel_rfl
 obtain ⟨⟨x1,x2,x3⟩,hx,hx1⟩:=Option.map_eq_some_iff.1 hw
 simp only [Prod.mk.injEq] at hx1
 obtain ⟨rfl,rfl⟩:=hx1
 exact OpenSpec.preRow_of_cond 8 hx (by kernel_rfl) (fun k hk=>by cases hk;kernel_rfl) (by kernel_rfl) (qan os _)
set_option maxRecDepth 100000 in
theorem qwl (os:Os) (started:os.Started) (H:Type) (enc:TypeId×Value→H) (F:Stop.Interp) :
  ReturnsInHanded {} Tryz.checked os 4 .any ((Rows.OpenSpec.upto Rows.rulesPrintMatchesSpecSpec).preRow enc Tryz.prog Tryz.f4 Rows.rulesPrintMatchesSpecUptoRow.domain false laidL) (((Rows.OpenSpec.upto Rows.rulesPrintMatchesSpecSpec).at F).post enc Tryz.prog Tryz.f4 false true false false):=by
 refine returnsInHanded_of_row (C:=Tryz.checked) (s:=Rows.OpenSpec.upto Rows.rulesPrintMatchesSpecSpec) qk started (by kernel_rfl) Tryz.func4
  (witness_row_at (enc:=enc) (C:=Tryz.checked) false (laidWorld os #[.slice none 0 0]) #[.slice none 0 0] rfl (by kernel_rfl) (by kernel_rfl) (by kernel_rfl) (qwn os enc)) ?_
 intro W base args ds gs before hval hW _ hk _ hL hS _
 exact qwj H enc W base args ds gs before hval hW (hk _ rfl) (gw_row hS hL)
theorem qwk:joinedFacts Tryz.pinned.checked.prog 4 Tryz.f4 (Rows.OpenSpec.upto Rows.rulesPrintMatchesSpecSpec).bare Rows.rulesPrintMatchesSpecUptoRow=true:=by
 have hl:(Rows.rulesPrintMatchesSpecUptoRow.lifted==Tryz.pinned.checked.prog.liftsFinal)=true:=fLift
 have hm:(Tryz.pinned.checked.prog.make==some Rows.rulesPrintMatchesSpecUptoRow.make)=true:=fMake
 unfold joinedFacts
 rw [hl,hm,fMay]
 decide +kernel
theorem qwm:Rows.RulesPrintMatchesSpecUptoSaid :=
 OpenClaim.holds_of_cond 4 Tryz.f4 rfl rfl rfl rfl rfl rfl rfl ⟨rfl,rfl,rfl,rfl,rfl⟩ rfl rfl rfl rfl rfl (by kernel_rfl) Tryz.func4 qwk
  (of_decide_eq_true (by kernel_rfl)) (by unfold Func.isWrapper;first|(rw [if_pos (by decide +kernel)];kernel_rfl)|(rw [if_neg (by decide +kernel)];exact ⟨rfl,rfl⟩))
  (fun os started H enc _ F=>by rw [OpenClaim.pre_eq_preRow];exact qwl os started H enc F)
theorem law41_holds:Rows.RulesPrintMatchesSpecUptoCardSaid :=
 Claim7.holds_tied_plain_at .later [] [.data, .data, .data, .sentinel, .sentinel] true (true, "2b3a0f9d02742b67dbb8825627be8a443850f33596560507000e04c2522490ee") true
  qwm (fun _ h=>by cases h) (by kernel_rfl) (fun _ h=>by cases h) rulesPrintMatchesSpecUpto_row_tie rfl ⟨rfl,rfl⟩ fMain rfl
  (fun f fn hf hfn=>by
   obtain rfl : f = 4 := Option.some.inj ((show Tryz.prog.funcNamed "posthouse/posthouselaw6.RulesPrintMatchesSpec" = some 4 by kernel_rfl).symm.trans hf) |>.symm
   obtain rfl:fn=Tryz.f4:=(Option.some.inj (Tryz.func4.symm.trans hfn)).symm
   refine ⟨fLooks,fun j t ht=>?_⟩
   rw [Tryz.params4] at ht
   rcases j with _|j
   ·obtain rfl:t=22:=by simpa using ht.symm
    exact (show Tryz.prog.wantsStandIn 22=false by kernel_rfl)
   ·simp at ht)
  (by kernel_rfl)
end Go.Proofs.YtognhcibcocbkaaGreatDoor
