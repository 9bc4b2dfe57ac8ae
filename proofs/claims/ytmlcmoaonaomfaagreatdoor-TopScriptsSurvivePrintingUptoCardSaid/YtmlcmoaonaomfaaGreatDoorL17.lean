/- Statement 17: the row and its card. -/
import Derived.Test.YtmlcmoaonaomfaaGreatDoorZ28
import Derived.Test.YtmlcmoaonaomfaaGreatDoorR4
import Derived.Test.YtmlcmoaonaomfaaGreatDoorRR5
import Derived.Test.YtmlcmoaonaomfaaGreatDoorTie
import Derived.Test.YtmlcmoaonaomfaaGreatDoorCards
namespace Go.Proofs.YtmlcmoaonaomfaaGreatDoor
open Go.ChangeShapes Go.WideShapes Go.ChangeAt Go.ChangeMaps Go.RowKit Go.Deep
set_option maxRecDepth 100000 in
theorem qr0 (H:Type) (enc:TypeId×Value->H) (W:World) (base:Nat) (args:Array Value) (ds gs:List (DataW H)) (before:List MemPlace)
  (hval:∀ (j:Nat) t v,Tryz.f4.params[j]?=some t->args[j]?=some v->Value.okWide Tryz.prog W .any base t v)
  (hW:DataW.Whole enc Tryz.prog Tryz.f4.params.toList Rows.topScriptsSurvivePrintingSpec.vars false W args.toList ds gs before) (hk:Rows.uptoSmall H (ds++gs)=true) (hG:GW W) :
  Calls Tryz.prog 4 args W λe W'=>∃ v,e=.returned v/\Rows.topScriptsSurvivePrintingSpec.post enc Tryz.prog Tryz.f4 false true false false W args v W':=by
 have hW':=hW;obtain ⟨p,q,hA,hV,_,_,_⟩:=hW;obtain ⟨rfl,rfl⟩:=trodVars_none hV;rw [Tryz.params4] at hA hval;obtain ⟨v0,w0,d0,k0,p0,q0,g0,rfl,rfl,h0,t0⟩:=trodAll_cons hA;obtain ⟨v1,w1,d1,k1,p1,q1,g1,rfl,rfl,h1,t1⟩:=trodAll_cons t0;obtain ⟨rfl,rfl,rfl⟩:=trodAll_nil t1;subst g1;obtain rfl:args=#[v0,v1]:=by cases args;simp_all
 have hbk:=q8p hk;simp [Rows.uptoBulkAll] at hbk;obtain ⟨l0,rl0,ok0,ll0,tz0⟩:=qwj (okWide_slice Tryz.underlying36 (hval 0 36 v0 rfl rfl)) (by omega) h0
 obtain ⟨f1,to1,e1,fs1,bd1,rm1,lo1,lf1,le1⟩:=qwg (okWide_struct Tryz.underlying30 (hval 1 30 v1 rfl rfl)) (by omega) h1
 have hc:=qi4 (law17 l0 f1 to1 e1 fs1 bd1 ⟨by unfold big;omega,ok0,lo1.fr,lo1.rl,lo1.ad,lo1.bl⟩ (by omega))
 obtain ⟨hsz,hrep⟩:=RepA.get (us:=[v0,v1]) (xs:=_) (W:=W) (show RepA W _ [_,_] from ⟨.c rl0,rm1,trivial⟩)
 refine (qr5 (cargs:=#[v0,v1]) hc hG rfl ?_).mono λe W' ⟨he,hb⟩=>?_
 ·intro i u x hu hx
  exact hrep i u x (by simpa using hu) hx
 subst he;exact ⟨_,rfl,qr6 (tb:=4) qp (by kernel_rfl) rfl Tryz.underlying4 rfl rfl hW' hb⟩
theorem qr4 (os:Os) {H:Type} (enc:TypeId×Value->H) :
  (Rows.OpenSpec.upto Rows.topScriptsSurvivePrintingSpec).preRow enc Tryz.prog Tryz.f4 Rows.topScriptsSurvivePrintingUptoRow.domain false laidL ((laidWorld os #[.slice none 0 0,.agg #[.string ⟨#[]⟩,.slice none 0 0,.string ⟨#[]⟩,.slice none 0 0,.slice none 0 0]]).forCall (λ_ _=>0) ⟨#[],#[.slice none 0 0,.agg #[.string ⟨#[]⟩,.slice none 0 0,.string ⟨#[]⟩,.slice none 0 0,.slice none 0 0]],[]⟩).memory #[.slice none 0 0,.agg #[.string ⟨#[]⟩,.slice none 0 0,.string ⟨#[]⟩,.slice none 0 0,.slice none 0 0]]:=by
 have hw:(DataW.whole enc Tryz.prog ((laidWorld os #[.slice none 0 0,.agg #[.string ⟨#[]⟩,.slice none 0 0,.string ⟨#[]⟩,.slice none 0 0,.slice none 0 0]]).forCall (λ_ _=>0) ⟨#[],#[.slice none 0 0,.agg #[.string ⟨#[]⟩,.slice none 0 0,.string ⟨#[]⟩,.slice none 0 0,.slice none 0 0]],[]⟩).memory Tryz.f4.params.toList (Rows.OpenSpec.upto Rows.topScriptsSurvivePrintingSpec).vars false (#[.slice none 0 0,.agg #[.string ⟨#[]⟩,.slice none 0 0,.string ⟨#[]⟩,.slice none 0 0,.slice none 0 0]]:Array Value).toList 8).map (λx=>(x.1,x.2.1)) =
   some ([.nil,.agg [.agg [.lit (.string []),.nil,.lit (.string [])],.agg [.nil,.nil]]],[]):=by kernel_rfl
 obtain ⟨⟨x1,x2,x3⟩,hx,hx1⟩:=Option.map_eq_some_iff.1 hw;simp only [Prod.mk.injEq] at hx1;obtain ⟨rfl,rfl⟩:=hx1;exact OpenSpec.preRow_of_cond 8 hx (by kernel_rfl) (λk hk=>by cases hk;kernel_rfl) (by kernel_rfl) (qqx os _)
set_option maxRecDepth 100000 in
theorem qr2 (os:Os) (started:os.Started) (H:Type) (enc:TypeId×Value->H) (F:Stop.Interp) :
  ReturnsInHanded {} Tryz.checked os 4 .any ((Rows.OpenSpec.upto Rows.topScriptsSurvivePrintingSpec).preRow enc Tryz.prog Tryz.f4 Rows.topScriptsSurvivePrintingUptoRow.domain false laidL) (((Rows.OpenSpec.upto Rows.topScriptsSurvivePrintingSpec).at F).post enc Tryz.prog Tryz.f4 false true false false):=by
 refine returnsInHanded_of_row (C:=Tryz.checked) (s:=Rows.OpenSpec.upto Rows.topScriptsSurvivePrintingSpec) qq started (by kernel_rfl) Tryz.func4
  (witness_row_at (enc:=enc) (C:=Tryz.checked) false (laidWorld os #[.slice none 0 0,.agg #[.string ⟨#[]⟩,.slice none 0 0,.string ⟨#[]⟩,.slice none 0 0,.slice none 0 0]]) #[.slice none 0 0,.agg #[.string ⟨#[]⟩,.slice none 0 0,.string ⟨#[]⟩,.slice none 0 0,.slice none 0 0]] rfl (by kernel_rfl) (by kernel_rfl) (by kernel_rfl) (qr4 os enc)) ?_
 intro W base args ds gs before hval hW _ hk _ hL hS _;exact qr0 H enc W base args ds gs before hval hW (hk _ rfl) (gw_row hS hL)
theorem qr1:joinedFacts Tryz.pinned.checked.prog 4 Tryz.f4 (Rows.OpenSpec.upto Rows.topScriptsSurvivePrintingSpec).bare Rows.topScriptsSurvivePrintingUptoRow=true:=by
 have hl:(Rows.topScriptsSurvivePrintingUptoRow.lifted==Tryz.pinned.checked.prog.liftsFinal)=true:=fLift;have hm:(Tryz.pinned.checked.prog.make==some Rows.topScriptsSurvivePrintingUptoRow.make)=true:=fMake
 unfold joinedFacts;rw [hl,hm,fMay];decide +kernel
theorem qr3:Rows.TopScriptsSurvivePrintingUptoSaid :=
 OpenClaim.holds_of_cond 4 Tryz.f4 rfl rfl rfl rfl rfl rfl rfl ⟨rfl,rfl,rfl,rfl,rfl⟩ rfl rfl rfl rfl rfl (by kernel_rfl) Tryz.func4 qr1
  (of_decide_eq_true (by kernel_rfl)) (by unfold Func.isWrapper;first|(rw [if_pos (by decide +kernel)];kernel_rfl)|(rw [if_neg (by decide +kernel)];exact ⟨rfl,rfl⟩))
  (λos started H enc _ F=>by rw [OpenClaim.pre_eq_preRow];exact qr2 os started H enc F)
theorem law17_holds:Rows.TopScriptsSurvivePrintingUptoCardSaid :=
 Claim7.holds_tied_plain_at .later [] [.data, .data, .data, .data, .sentinel, .sentinel, .pinned] true (true, "9c1910c18db6f584fd89a4afe83829bd6e1522bf54657120e4f4c82a059e8bb1") true
  qr3 (λ_ h=>by cases h) (by kernel_rfl) (λ_ h=>by cases h) topScriptsSurvivePrintingUpto_row_tie rfl ⟨rfl,rfl⟩ fMain rfl
  (λf fn hf hfn=>by
   obtain rfl : f = 4 := Option.some.inj ((show Tryz.prog.funcNamed "posthouse/posthousetop.TopScriptsSurvivePrinting" = some 4 by kernel_rfl).symm.trans hf) |>.symm
   obtain rfl:fn=Tryz.f4:=(Option.some.inj (Tryz.func4.symm.trans hfn)).symm;refine ⟨fLooks,λj t ht=>?_⟩;rw [Tryz.params4] at ht;rcases j with _|j
   ·obtain rfl:t=36:=by simpa using ht.symm
    exact (show Tryz.prog.wantsStandIn 36=false by kernel_rfl)
   rcases j with _|j
   ·obtain rfl:t=30:=by simpa using ht.symm
    exact (show Tryz.prog.wantsStandIn 30=false by kernel_rfl)
   ·simp at ht)
  (by kernel_rfl)
end Go.Proofs.YtmlcmoaonaomfaaGreatDoor
