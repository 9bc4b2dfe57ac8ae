/- Statement 44: the row and its card: for every input (no condition on sizes). -/
import Derived.Test.YtognhcibcocbkaaGreatDoorZ30
import Derived.Test.YtognhcibcocbkaaGreatDoorZ33
import Derived.Test.YtognhcibcocbkaaGreatDoorR4
import Derived.Test.YtognhcibcocbkaaGreatDoorR5
import Derived.Test.YtognhcibcocbkaaGreatDoorTie
import Derived.Test.YtognhcibcocbkaaGreatDoorCards
namespace Go.Proofs.YtognhcibcocbkaaGreatDoor
open Go.ChangeShapes Go.WideShapes Go.ChangeAt Go.ChangeMaps Go.RowKit Go.Deep
set_option maxRecDepth 100000 in
theorem q1b8 (H:Type) (enc:TypeId×Value→H) (W:World) (base:Nat) (args:Array Value) (ds gs:List (DataW H)) (before:List MemPlace)
  (hval:∀ (j:Nat) t v,Tryz.f7.params[j]?=some t→args[j]?=some v→Value.okWide Tryz.prog W .any base t v)
  (hW:DataW.Whole enc Tryz.prog Tryz.f7.params.toList Rows.rulesFollowSpec.vars false W args.toList ds gs before) (hz:(DataW.weightsEach Tryz.prog (Tryz.f7.params.toList++(OpenSpec.ofChange Rows.rulesFollowSpec).bare.plain.varTypes Tryz.prog) (ds++gs)).all (·≤reachBytes)=true) (hG:GW W) :
  Calls Tryz.prog 7 args W fun e W'=>∃ v,e=.returned v∧Rows.rulesFollowSpec.post enc Tryz.prog Tryz.f7 false true false false W args v W':=by
 have hW':=hW
 obtain ⟨p,q,hA,hV,_,_,_⟩:=hW
 obtain ⟨rfl,rfl⟩:=trodVars_none hV
 rw [Tryz.params7] at hA hval
 obtain ⟨v0,v1,d0,d1,p0,p1,hargs,rfl,rfl,h0,h1⟩:=trodAll_two hA
 subst hargs
 obtain ⟨x0,rfl,rfl⟩:=qdy (okWide_string Tryz.underlying9 (hval 0 9 v0 rfl rfl)) h0
 have len0:x0.size≤140737488351232:=by
  have h:=sized_string hz (j:=0) (t:=9) (by rw [Tryz.params7];rfl) rfl
  rw [Array.length_toList] at h
  exact h
 obtain ⟨x1,rfl,rfl⟩:=qdy (okWide_string Tryz.underlying9 (hval 1 9 v1 rfl rfl)) h1
 have len1:x1.size≤140737488351232:=by
  have h:=sized_string hz (j:=1) (t:=9) (by rw [Tryz.params7];rfl) rfl
  rw [Array.length_toList] at h
  exact h
 have hc:=q74 ((law44 x0 x1 (by omega)))
 obtain ⟨hsz,hrep⟩:=RepA.get (us:=[.string x0,.string x1]) (xs:=_) (W:=W) (show RepA W _ [_,_] from ⟨.c (.str _),.c (.str _),trivial⟩)
 refine (qbl (cargs:=#[.string x0,.string x1]) hc hG rfl ?_).mono fun e W' ⟨he,hb⟩=>?_
 ·intro i u x hu hx
  exact hrep i u x (by simpa using hu) hx
 subst he
 exact ⟨_,rfl,qbm (tb:=4) qj (by kernel_rfl) rfl Tryz.underlying4 rfl rfl hW' hb⟩
theorem q1bc (os:Os) {H:Type} (enc:TypeId×Value→H) :
  (OpenSpec.ofChange Rows.rulesFollowSpec).preRow enc Tryz.prog Tryz.f7 Rows.rulesFollowRow.domain false laidL ((laidWorld os #[.string ⟨#[]⟩,.string ⟨#[]⟩]).forCall (fun _ _=>0) ⟨#[],#[.string ⟨#[]⟩,.string ⟨#[]⟩],[]⟩).memory #[.string ⟨#[]⟩,.string ⟨#[]⟩]:=by
 have hw:(DataW.whole enc Tryz.prog ((laidWorld os #[.string ⟨#[]⟩,.string ⟨#[]⟩]).forCall (fun _ _=>0) ⟨#[],#[.string ⟨#[]⟩,.string ⟨#[]⟩],[]⟩).memory Tryz.f7.params.toList (OpenSpec.ofChange Rows.rulesFollowSpec).vars false (#[.string ⟨#[]⟩,.string ⟨#[]⟩]:Array Value).toList 8).map (fun x=>(x.1,x.2.1)) =
   some ([.lit (.string []),.lit (.string [])],[]):=by kernel_rfl
 obtain ⟨⟨x1,x2,x3⟩,hx,hx1⟩:=Option.map_eq_some_iff.1 hw
 simp only [Prod.mk.injEq] at hx1
 obtain ⟨rfl,rfl⟩:=hx1
 exact OpenSpec.preRow_of_cond 8 hx (by kernel_rfl) (fun k hk=>by cases hk) (by kernel_rfl) (qbd os _)
set_option maxRecDepth 100000 in
theorem q1ba (os:Os) (started:os.Started) (H:Type) (enc:TypeId×Value→H) (F:Stop.Interp) :
  ReturnsInHanded {} Tryz.checked os 7 .any ((OpenSpec.ofChange Rows.rulesFollowSpec).preRow enc Tryz.prog Tryz.f7 Rows.rulesFollowRow.domain false laidL) (((OpenSpec.ofChange Rows.rulesFollowSpec).at F).post enc Tryz.prog Tryz.f7 false true false false):=by
 refine returnsInHanded_of_row (C:=Tryz.checked) (s:=OpenSpec.ofChange Rows.rulesFollowSpec) qk started (by kernel_rfl) Tryz.func7
  (witness_row_at (enc:=enc) (C:=Tryz.checked) false (laidWorld os #[.string ⟨#[]⟩,.string ⟨#[]⟩]) #[.string ⟨#[]⟩,.string ⟨#[]⟩] rfl (by kernel_rfl) (by kernel_rfl) (by kernel_rfl) (q1bc os enc)) ?_
 intro W base args ds gs before hval hW _ _ hz hL hS _
 exact q1b8 H enc W base args ds gs before hval hW hz (gw_row hS hL)
theorem q1b9:joinedFacts Tryz.pinned.checked.prog 7 Tryz.f7 (OpenSpec.ofChange Rows.rulesFollowSpec).bare Rows.rulesFollowRow=true:=by
 have hl:(Rows.rulesFollowRow.lifted==Tryz.pinned.checked.prog.liftsFinal)=true:=fLift
 have hm:(Tryz.pinned.checked.prog.make==some Rows.rulesFollowRow.make)=true:=fMake
 unfold joinedFacts
 rw [hl,hm,fMay]
 decide +kernel
theorem q1bb:Rows.RulesFollowSaid :=
 OpenClaim.holds_of_cond 7 Tryz.f7 rfl rfl rfl rfl rfl rfl rfl ⟨rfl,rfl,rfl,rfl,rfl⟩ rfl rfl rfl rfl rfl (by kernel_rfl) Tryz.func7 q1b9
  (of_decide_eq_true (by kernel_rfl)) (by unfold Func.isWrapper;first|(rw [if_pos (by decide +kernel)];kernel_rfl)|(rw [if_neg (by decide +kernel)];exact ⟨rfl,rfl⟩))
  (fun os started H enc _ F=>by rw [OpenClaim.pre_eq_preRow];exact q1ba os started H enc F)
theorem law44_holds:Rows.RulesFollowCardSaid :=
 Claim7.holds_tied_plain_at .later [] [.data, .data, .data, .sentinel, .sentinel] true (true, "2b3a0f9d02742b67dbb8825627be8a443850f33596560507000e04c2522490ee") true
  q1bb (fun _ h=>by cases h) (by kernel_rfl) (fun _ h=>by cases h) rulesFollow_row_tie rfl ⟨rfl,rfl⟩ fMain rfl
  (fun f fn hf hfn=>by
   obtain rfl : f = 7 := Option.some.inj ((show Tryz.prog.funcNamed "posthouse/posthouselaw6.RulesFollow" = some 7 by kernel_rfl).symm.trans hf) |>.symm
   obtain rfl:fn=Tryz.f7:=(Option.some.inj (Tryz.func7.symm.trans hfn)).symm
   refine ⟨fLooks,fun j t ht=>?_⟩
   rw [Tryz.params7] at ht
   rcases j with _|j
   ·obtain rfl:t=9:=by simpa using ht.symm
    exact (show Tryz.prog.wantsStandIn 9=false by kernel_rfl)
   rcases j with _|j
   ·obtain rfl:t=9:=by simpa using ht.symm
    exact (show Tryz.prog.wantsStandIn 9=false by kernel_rfl)
   ·simp at ht)
  (by kernel_rfl)
end Go.Proofs.YtognhcibcocbkaaGreatDoor
