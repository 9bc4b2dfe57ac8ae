/- Statement 12: the row and its card. -/
import Derived.Test.YtmlcmoaonaomfaaGreatDoorZ47
import Derived.Test.YtmlcmoaonaomfaaGreatDoorR4
import Derived.Test.YtmlcmoaonaomfaaGreatDoorRR5
import Derived.Test.YtmlcmoaonaomfaaGreatDoorTie
import Derived.Test.YtmlcmoaonaomfaaGreatDoorCards
namespace Go.Proofs.YtmlcmoaonaomfaaGreatDoor
open Go.ChangeShapes Go.WideShapes Go.ChangeAt Go.ChangeMaps Go.RowKit Go.Deep
set_option maxRecDepth 100000 in
theorem qps (H:Type) (enc:TypeId×Value->H) (W:World) (base:Nat) (args:Array Value) (ds gs:List (DataW H)) (before:List MemPlace)
  (hval:∀ (j:Nat) t v,Tryz.f3.params[j]?=some t->args[j]?=some v->Value.okWide Tryz.prog W .any base t v)
  (hW:DataW.Whole enc Tryz.prog Tryz.f3.params.toList Rows.topFiltersSeeSignaturesSpec.vars false W args.toList ds gs before) (hk:Rows.uptoSmall H (ds++gs)=true) (hG:GW W) :
  Calls Tryz.prog 3 args W λe W'=>∃ v,e=.returned v/\Rows.topFiltersSeeSignaturesSpec.post enc Tryz.prog Tryz.f3 false true false false W args v W':=by
 have hW':=hW
 obtain ⟨p,q,hA,hV,_,_,_⟩:=hW
 obtain ⟨rfl,rfl⟩:=trodVars_none hV
 rw [Tryz.params3] at hA hval
 obtain ⟨v0,w0,d0,k0,p0,q0,g0,rfl,rfl,h0,t0⟩:=trodAll_cons hA
 obtain ⟨v1,w1,d1,k1,p1,q1,g1,rfl,rfl,h1,t1⟩:=trodAll_cons t0
 obtain ⟨v2,w2,d2,k2,p2,q2,g2,rfl,rfl,h2,t2⟩:=trodAll_cons t1
 obtain ⟨v3,w3,d3,k3,p3,q3,g3,rfl,rfl,h3,t3⟩:=trodAll_cons t2
 obtain ⟨v4,w4,d4,k4,p4,q4,g4,rfl,rfl,h4,t4⟩:=trodAll_cons t3
 obtain ⟨rfl,rfl,rfl⟩:=trodAll_nil t4
 subst g4
 subst g3
 subst g2
 subst g1
 obtain rfl:args=#[v0,v1,v2,v3,v4]:=by cases args;simp_all
 have hbk:=q8i hk
 simp [Rows.uptoBulkAll] at hbk
 obtain ⟨f0,to0,e0,fs0,bd0,rm0,lo0,u80⟩:=qui (okWide_struct Tryz.underlying30 (hval 0 30 v0 rfl rfl)) (by omega) h0
 obtain ⟨x1,rx1,sx1⟩:=qun (okWide_string Tryz.underlying9 (hval 1 9 v1 rfl rfl)) (by omega) h1
 obtain ⟨n2,rn2⟩:=qup (w:=W) (okWide_int Tryz.underlying31 (hval 2 31 v2 rfl rfl))
 obtain ⟨l3,rl3⟩:=quk (okWide_slice Tryz.underlying32 (hval 3 32 v3 rfl rfl)) h3
 obtain ⟨x4,rx4,sx4⟩:=qun (okWide_string Tryz.underlying9 (hval 4 9 v4 rfl rfl)) (by omega) h4
 have hc:=qg5 (law12 f0 to0 e0 fs0 bd0 x1 n2 l3 x4 lo0 u80 (by omega) (λz hz hl=>quy x4 hz hl))
 obtain ⟨hsz,hrep⟩:=RepA.get (us:=[v0,v1,v2,v3,v4]) (xs:=_) (W:=W) (show RepA W _ [_,_,_,_,_] from ⟨rm0,rx1,rn2,rl3,rx4,trivial⟩)
 refine (qpx (cargs:=#[v0,v1,v2,v3,v4]) hc hG rfl ?_).mono λe W' ⟨he,hb⟩=>?_
 ·intro i u x hu hx
  exact hrep i u x (by simpa using hu) hx
 subst he
 exact ⟨_,rfl,qpy (tb:=4) qp (by kernel_rfl) rfl Tryz.underlying4 rfl rfl hW' hb⟩
theorem qpw (os:Os) {H:Type} (enc:TypeId×Value->H) :
  (Rows.OpenSpec.upto Rows.topFiltersSeeSignaturesSpec).preRow enc Tryz.prog Tryz.f3 Rows.topFiltersSeeSignaturesUptoRow.domain false laidL ((laidWorld os #[.agg #[.string ⟨#[]⟩,.slice none 0 0,.string ⟨#[]⟩,.slice none 0 0,.slice none 0 0],.string ⟨#[]⟩,.int .u64 0,.slice none 0 0,.string ⟨#[]⟩]).forCall (λ_ _=>0) ⟨#[],#[.agg #[.string ⟨#[]⟩,.slice none 0 0,.string ⟨#[]⟩,.slice none 0 0,.slice none 0 0],.string ⟨#[]⟩,.int .u64 0,.slice none 0 0,.string ⟨#[]⟩],[]⟩).memory #[.agg #[.string ⟨#[]⟩,.slice none 0 0,.string ⟨#[]⟩,.slice none 0 0,.slice none 0 0],.string ⟨#[]⟩,.int .u64 0,.slice none 0 0,.string ⟨#[]⟩]:=by
 have hw:(DataW.whole enc Tryz.prog ((laidWorld os #[.agg #[.string ⟨#[]⟩,.slice none 0 0,.string ⟨#[]⟩,.slice none 0 0,.slice none 0 0],.string ⟨#[]⟩,.int .u64 0,.slice none 0 0,.string ⟨#[]⟩]).forCall (λ_ _=>0) ⟨#[],#[.agg #[.string ⟨#[]⟩,.slice none 0 0,.string ⟨#[]⟩,.slice none 0 0,.slice none 0 0],.string ⟨#[]⟩,.int .u64 0,.slice none 0 0,.string ⟨#[]⟩],[]⟩).memory Tryz.f3.params.toList (Rows.OpenSpec.upto Rows.topFiltersSeeSignaturesSpec).vars false (#[.agg #[.string ⟨#[]⟩,.slice none 0 0,.string ⟨#[]⟩,.slice none 0 0,.slice none 0 0],.string ⟨#[]⟩,.int .u64 0,.slice none 0 0,.string ⟨#[]⟩]:Array Value).toList 8).map (λx=>(x.1,x.2.1)) =
   some ([.agg [.agg [.lit (.string []),.nil,.lit (.string [])],.agg [.nil,.nil]],.lit (.string []),.lit (.int .u64 0),.nil,.lit (.string [])],[]):=by kernel_rfl
 obtain ⟨⟨x1,x2,x3⟩,hx,hx1⟩:=Option.map_eq_some_iff.1 hw
 simp only [Prod.mk.injEq] at hx1
 obtain ⟨rfl,rfl⟩:=hx1
 exact OpenSpec.preRow_of_cond 8 hx (by kernel_rfl) (λk hk=>by cases hk;kernel_rfl) (by kernel_rfl) (qpp os _)
set_option maxRecDepth 100000 in
theorem qpu (os:Os) (started:os.Started) (H:Type) (enc:TypeId×Value->H) (F:Stop.Interp) :
  ReturnsInHanded {} Tryz.checked os 3 .any ((Rows.OpenSpec.upto Rows.topFiltersSeeSignaturesSpec).preRow enc Tryz.prog Tryz.f3 Rows.topFiltersSeeSignaturesUptoRow.domain false laidL) (((Rows.OpenSpec.upto Rows.topFiltersSeeSignaturesSpec).at F).post enc Tryz.prog Tryz.f3 false true false false):=by
 refine returnsInHanded_of_row (C:=Tryz.checked) (s:=Rows.OpenSpec.upto Rows.topFiltersSeeSignaturesSpec) qq started (by kernel_rfl) Tryz.func3
  (witness_row_at (enc:=enc) (C:=Tryz.checked) false (laidWorld os #[.agg #[.string ⟨#[]⟩,.slice none 0 0,.string ⟨#[]⟩,.slice none 0 0,.slice none 0 0],.string ⟨#[]⟩,.int .u64 0,.slice none 0 0,.string ⟨#[]⟩]) #[.agg #[.string ⟨#[]⟩,.slice none 0 0,.string ⟨#[]⟩,.slice none 0 0,.slice none 0 0],.string ⟨#[]⟩,.int .u64 0,.slice none 0 0,.string ⟨#[]⟩] rfl (by kernel_rfl) (by kernel_rfl) (by kernel_rfl) (qpw os enc)) ?_
 intro W base args ds gs before hval hW _ hk _ hL hS _
 exact qps H enc W base args ds gs before hval hW (hk _ rfl) (gw_row hS hL)
theorem qpt:joinedFacts Tryz.pinned.checked.prog 3 Tryz.f3 (Rows.OpenSpec.upto Rows.topFiltersSeeSignaturesSpec).bare Rows.topFiltersSeeSignaturesUptoRow=true:=by
 have hl:(Rows.topFiltersSeeSignaturesUptoRow.lifted==Tryz.pinned.checked.prog.liftsFinal)=true:=fLift
 have hm:(Tryz.pinned.checked.prog.make==some Rows.topFiltersSeeSignaturesUptoRow.make)=true:=fMake
 unfold joinedFacts
 rw [hl,hm,fMay]
 decide +kernel
theorem qpv:Rows.TopFiltersSeeSignaturesUptoSaid :=
 OpenClaim.holds_of_cond 3 Tryz.f3 rfl rfl rfl rfl rfl rfl rfl ⟨rfl,rfl,rfl,rfl,rfl⟩ rfl rfl rfl rfl rfl (by kernel_rfl) Tryz.func3 qpt
  (of_decide_eq_true (by kernel_rfl)) (by unfold Func.isWrapper;first|(rw [if_pos (by decide +kernel)];kernel_rfl)|(rw [if_neg (by decide +kernel)];exact ⟨rfl,rfl⟩))
  (λos started H enc _ F=>by rw [OpenClaim.pre_eq_preRow];exact qpu os started H enc F)
theorem law12_holds:Rows.TopFiltersSeeSignaturesUptoCardSaid :=
 Claim7.holds_tied_plain_at .later [] [.data, .data, .data, .data, .sentinel, .sentinel, .pinned] true (true, "9c1910c18db6f584fd89a4afe83829bd6e1522bf54657120e4f4c82a059e8bb1") true
  qpv (λ_ h=>by cases h) (by kernel_rfl) (λ_ h=>by cases h) topFiltersSeeSignaturesUpto_row_tie rfl ⟨rfl,rfl⟩ fMain rfl
  (λf fn hf hfn=>by
   obtain rfl : f = 3 := Option.some.inj ((show Tryz.prog.funcNamed "posthouse/posthousetop.TopFiltersSeeSignatures" = some 3 by kernel_rfl).symm.trans hf) |>.symm
   obtain rfl:fn=Tryz.f3:=(Option.some.inj (Tryz.func3.symm.trans hfn)).symm
   refine ⟨fLooks,λj t ht=>?_⟩
   rw [Tryz.params3] at ht
   rcases j with _|j
   ·obtain rfl:t=30:=by simpa using ht.symm
    exact (show Tryz.prog.wantsStandIn 30=false by kernel_rfl)
   rcases j with _|j
   ·obtain rfl:t=9:=by simpa using ht.symm
    exact (show Tryz.prog.wantsStandIn 9=false by kernel_rfl)
   rcases j with _|j
   ·obtain rfl:t=31:=by simpa using ht.symm
    exact (show Tryz.prog.wantsStandIn 31=false by kernel_rfl)
   rcases j with _|j
   ·obtain rfl:t=32:=by simpa using ht.symm
    exact (show Tryz.prog.wantsStandIn 32=false by kernel_rfl)
   rcases j with _|j
   ·obtain rfl:t=9:=by simpa using ht.symm
    exact (show Tryz.prog.wantsStandIn 9=false by kernel_rfl)
   ·simp at ht)
  (by kernel_rfl)
end Go.Proofs.YtmlcmoaonaomfaaGreatDoor
