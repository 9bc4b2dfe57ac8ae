/- Statement 29: the row and its card. -/
import Derived.Test.YtokahibbkdbndaaGreatDoorZ34
import Derived.Test.YtokahibbkdbndaaGreatDoorZ35
import Derived.Test.YtokahibbkdbndaaGreatDoorZ37
import Derived.Test.YtokahibbkdbndaaGreatDoorR4
import Derived.Test.YtokahibbkdbndaaGreatDoorR5
import Derived.Test.YtokahibbkdbndaaGreatDoorTie
import Derived.Test.YtokahibbkdbndaaGreatDoorCards
namespace Go.Proofs.YtokahibbkdbndaaGreatDoor
open Go.ChangeShapes Go.WideShapes Go.ChangeAt Go.ChangeMaps Go.RowKit Go.Deep
set_option maxRecDepth 100000 in
theorem q21j (H:Type) (enc:TypeId × Value→H) (W:World) (base:Nat) (args:Array Value) (ds gs:List (DataW H)) (before:List MemPlace)
  (hval:∀ (j:Nat) t v,Tryz.f9.params[j]?=some t→args[j]?=some v→Value.okWide Tryz.prog W .any base t v)
  (hW:DataW.Whole enc Tryz.prog Tryz.f9.params.toList Rows.evaluateOfBranchesSpec.vars false W args.toList ds gs before) (hk:Rows.uptoSmall H (ds++gs)=true) (hG:GW W) :
  Calls Tryz.prog 9 args W fun e W'=>∃ v,e=.returned v∧Rows.evaluateOfBranchesSpec.post enc Tryz.prog Tryz.f9 false true false false W args v W':=by
 have hW':=hW
 obtain ⟨p,q,hA,hV,_,_,_⟩:=hW
 obtain ⟨rfl,rfl⟩:=trodVars_none hV
 rw [Tryz.params9] at hA hval
 obtain ⟨v0,v1,v2,v3,d0,d1,d2,d3,p0,p1,p2,p3,hargs,rfl,rfl,h0,h1,h2,h3⟩:=trodAll_four hA
 subst hargs
 have hbk:=q77 hk
 simp [Rows.uptoBulkAll] at hbk
 obtain ⟨t0,rt0,okt0⟩:=q282 (okWide_struct Tryz.underlying48 (hval 0 48 v0 rfl rfl)) (by omega) h0
 obtain ⟨l1,rc1,ok1,len1⟩:=qpr (okWide_slice Tryz.underlying22 (hval 1 22 v1 rfl rfl)) (by omega) h1
 obtain ⟨l2,rc2,ok2,len2⟩:=qpr (okWide_slice Tryz.underlying22 (hval 2 22 v2 rfl rfl)) (by omega) h2
 obtain ⟨f3,to3,e3,fs3,bd3,rm3,lo3,lf3⟩:=qpo (okWide_struct Tryz.underlying31 (hval 3 31 v3 rfl rfl)) (by omega) h3
 have hc:=qf1 (branchLaw okt0 (lo3.mok ok1 (by unfold big;omega)) (lo3.mok ok2 (by unfold big;omega)) e3 fs3)
 obtain ⟨hsz,hrep⟩:=RepA.get (us:=[v0,v1,v2,v3]) (xs:=_) (W:=W) (show RepA W _ [_,_,_,_] from ⟨rt0,.c rc1,.c rc2,rm3,trivial⟩)
 refine (qme (cargs:=#[v0,v1,v2,v3]) hc hG rfl ?_).mono fun e W' ⟨he,hb⟩=>?_
 ·intro i u x hu hx
  exact hrep i u x (by simpa using hu) hx
 subst he
 exact ⟨_,rfl,qmf (tb:=4) ql (by kernel_rfl) rfl Tryz.underlying4 rfl rfl hW' hb⟩
theorem q21n (os:Os) {H:Type} (enc:TypeId × Value→H) :
  (Rows.OpenSpec.upto Rows.evaluateOfBranchesSpec).preRow enc Tryz.prog Tryz.f9 Rows.evaluateOfBranchesUptoRow.domain false laidL ((laidWorld os #[.agg #[.int .i64 0,.slice none 0 0,.string ⟨#[]⟩,.int .i64 0,.string ⟨#[]⟩,.int .i64 0],.slice none 0 0,.slice none 0 0,.agg #[.string ⟨#[]⟩,.slice none 0 0,.string ⟨#[]⟩,.slice none 0 0,.slice none 0 0]]).forCall (fun _ _=>0) ⟨#[],#[.agg #[.int .i64 0,.slice none 0 0,.string ⟨#[]⟩,.int .i64 0,.string ⟨#[]⟩,.int .i64 0],.slice none 0 0,.slice none 0 0,.agg #[.string ⟨#[]⟩,.slice none 0 0,.string ⟨#[]⟩,.slice none 0 0,.slice none 0 0]],[]⟩).memory #[.agg #[.int .i64 0,.slice none 0 0,.string ⟨#[]⟩,.int .i64 0,.string ⟨#[]⟩,.int .i64 0],.slice none 0 0,.slice none 0 0,.agg #[.string ⟨#[]⟩,.slice none 0 0,.string ⟨#[]⟩,.slice none 0 0,.slice none 0 0]]:=by
 have hw:(DataW.whole enc Tryz.prog ((laidWorld os #[.agg #[.int .i64 0,.slice none 0 0,.string ⟨#[]⟩,.int .i64 0,.string ⟨#[]⟩,.int .i64 0],.slice none 0 0,.slice none 0 0,.agg #[.string ⟨#[]⟩,.slice none 0 0,.string ⟨#[]⟩,.slice none 0 0,.slice none 0 0]]).forCall (fun _ _=>0) ⟨#[],#[.agg #[.int .i64 0,.slice none 0 0,.string ⟨#[]⟩,.int .i64 0,.string ⟨#[]⟩,.int .i64 0],.slice none 0 0,.slice none 0 0,.agg #[.string ⟨#[]⟩,.slice none 0 0,.string ⟨#[]⟩,.slice none 0 0,.slice none 0 0]],[]⟩).memory Tryz.f9.params.toList (Rows.OpenSpec.upto Rows.evaluateOfBranchesSpec).vars false (#[.agg #[.int .i64 0,.slice none 0 0,.string ⟨#[]⟩,.int .i64 0,.string ⟨#[]⟩,.int .i64 0],.slice none 0 0,.slice none 0 0,.agg #[.string ⟨#[]⟩,.slice none 0 0,.string ⟨#[]⟩,.slice none 0 0,.slice none 0 0]]:Array Value).toList 8).map (fun x=>(x.1,x.2.1)) =
   some ([.agg [.lit (.int .i64 0),.nil,.lit (.string []),.lit (.int .i64 0),.lit (.string []),.lit (.int .i64 0)],.nil,.nil,.agg [.agg [.lit (.string []),.nil,.lit (.string [])],.agg [.nil,.nil]]],[]):=by kernel_rfl
 obtain ⟨⟨x1,x2,x3⟩,hx,hx1⟩:=Option.map_eq_some_iff.1 hw
 simp only [Prod.mk.injEq] at hx1
 obtain ⟨rfl,rfl⟩:=hx1
 exact OpenSpec.preRow_of_cond 8 hx (by kernel_rfl) (fun k hk=>by cases hk;kernel_rfl) (by kernel_rfl) (qm7 os _)
set_option maxRecDepth 100000 in
theorem q21l (os:Os) (started:os.Started) (H:Type) (enc:TypeId × Value→H) (F:Stop.Interp) :
  ReturnsInHanded {} Tryz.checked os 9 .any ((Rows.OpenSpec.upto Rows.evaluateOfBranchesSpec).preRow enc Tryz.prog Tryz.f9 Rows.evaluateOfBranchesUptoRow.domain false laidL) (((Rows.OpenSpec.upto Rows.evaluateOfBranchesSpec).at F).post enc Tryz.prog Tryz.f9 false true false false):=by
 refine returnsInHanded_of_row (C:=Tryz.checked) (s:=Rows.OpenSpec.upto Rows.evaluateOfBranchesSpec) qm started (by kernel_rfl) Tryz.func9
  (witness_row_at (enc:=enc) (C:=Tryz.checked) false (laidWorld os #[.agg #[.int .i64 0,.slice none 0 0,.string ⟨#[]⟩,.int .i64 0,.string ⟨#[]⟩,.int .i64 0],.slice none 0 0,.slice none 0 0,.agg #[.string ⟨#[]⟩,.slice none 0 0,.string ⟨#[]⟩,.slice none 0 0,.slice none 0 0]]) #[.agg #[.int .i64 0,.slice none 0 0,.string ⟨#[]⟩,.int .i64 0,.string ⟨#[]⟩,.int .i64 0],.slice none 0 0,.slice none 0 0,.agg #[.string ⟨#[]⟩,.slice none 0 0,.string ⟨#[]⟩,.slice none 0 0,.slice none 0 0]] rfl (by kernel_rfl) (by kernel_rfl) (by kernel_rfl) (q21n os enc)) ?_
 intro W base args ds gs before hval hW _ hk _ hL hS _
 exact q21j H enc W base args ds gs before hval hW (hk _ rfl) (gw_row hS hL)
theorem q21k:joinedFacts Tryz.pinned.checked.prog 9 Tryz.f9 (Rows.OpenSpec.upto Rows.evaluateOfBranchesSpec).bare Rows.evaluateOfBranchesUptoRow=true:=by
 have hl:(Rows.evaluateOfBranchesUptoRow.lifted==Tryz.pinned.checked.prog.liftsFinal)=true:=fLift
 have hm:(Tryz.pinned.checked.prog.make==some Rows.evaluateOfBranchesUptoRow.make)=true:=fMake
 unfold joinedFacts
 rw [hl,hm,fMay]
 decide +kernel
theorem q21m:Rows.EvaluateOfBranchesUptoSaid :=
 OpenClaim.holds_of_cond 9 Tryz.f9 rfl rfl rfl rfl rfl rfl rfl ⟨rfl,rfl,rfl,rfl,rfl⟩ rfl rfl rfl rfl rfl (by kernel_rfl) Tryz.func9 q21k
  (of_decide_eq_true (by kernel_rfl)) (by unfold Func.isWrapper;first|(rw [if_pos (by decide +kernel)];kernel_rfl)|(rw [if_neg (by decide +kernel)];exact ⟨rfl,rfl⟩))
  (fun os started H enc _ F=>by rw [OpenClaim.pre_eq_preRow];exact q21l os started H enc F)
theorem law29_holds:Rows.EvaluateOfBranchesUptoCardSaid :=
 Claim7.holds_tied_plain_at .later [] [.data, .data, .data] true (true, "b00a288ae26c19b1c69d48304217fb75c8ecdea4627290165c80941d2d673c9c") false
  q21m (fun _ h=>by cases h) (by kernel_rfl) (fun _ h=>by cases h) evaluateOfBranchesUpto_row_tie rfl ⟨rfl,rfl⟩ fMain rfl
  (fun f fn hf hfn=>by
   obtain rfl : f = 9 := Option.some.inj ((show Tryz.prog.funcNamed "posthouse/posthouselaw6.EvaluateOfBranches" = some 9 by kernel_rfl).symm.trans hf) |>.symm
   obtain rfl:fn=Tryz.f9:=(Option.some.inj (Tryz.func9.symm.trans hfn)).symm
   refine ⟨fLooks,fun j t ht=>?_⟩
   rw [Tryz.params9] at ht
   rcases j with _|j
   ·obtain rfl:t=48:=by simpa using ht.symm
    exact (show Tryz.prog.wantsStandIn 48=false by kernel_rfl)
   rcases j with _|j
   ·obtain rfl:t=22:=by simpa using ht.symm
    exact (show Tryz.prog.wantsStandIn 22=false by kernel_rfl)
   rcases j with _|j
   ·obtain rfl:t=22:=by simpa using ht.symm
    exact (show Tryz.prog.wantsStandIn 22=false by kernel_rfl)
   rcases j with _|j
   ·obtain rfl:t=31:=by simpa using ht.symm
    exact (show Tryz.prog.wantsStandIn 31=false by kernel_rfl)
   ·simp at ht)
  (by kernel_rfl)
end Go.Proofs.YtokahibbkdbndaaGreatDoor
