/- Statement 23: the row and its card. -/
import Derived.Test.YtmacbkjehjbjeaaGreatDoorR3
import Derived.Test.YtmacbkjehjbjeaaGreatDoorR4
import Derived.Test.YtmacbkjehjbjeaaGreatDoorR5
import Derived.Test.YtmacbkjehjbjeaaGreatDoorTie
import Derived.Test.YtmacbkjehjbjeaaGreatDoorCards
namespace Go.Proofs.YtmacbkjehjbjeaaGreatDoor
open Go.ChangeShapes Go.WideShapes Go.ChangeAt Go.ChangeMaps Go.RowKit Go.Deep
set_option maxRecDepth 100000 in
theorem q18u (H:Type) (enc:TypeId×Value→H) (W:World) (base:Nat) (args:Array Value) (ds gs:List (DataW H)) (before:List MemPlace)
  (hval:∀ (j:Nat) t v,Tryz.f3.params[j]?=some t→args[j]?=some v→Value.okWide Tryz.prog W .any base t v)
  (hW:DataW.Whole enc Tryz.prog Tryz.f3.params.toList Rows.topRepliesDoNotEchoSpec.vars false W args.toList ds gs before) (hk:Rows.uptoSmall H (ds++gs)=true) (hG:GW W) :
  Calls Tryz.prog 3 args W fun e W'=>∃ v,e=.returned v∧Rows.topRepliesDoNotEchoSpec.post enc Tryz.prog Tryz.f3 false true false false W args v W':=by
 have hW':=hW
 obtain ⟨p,q,hA,hV,_,_,_⟩:=hW
 obtain ⟨rfl,rfl⟩:=trodVars_none hV
 rw [Tryz.params3] at hA hval
 obtain ⟨v0,w0,d0,k0,p0,q0,g0,rfl,rfl,h0,t0⟩:=trodAll_cons hA
 obtain ⟨v1,w1,d1,k1,p1,q1,g1,rfl,rfl,h1,t1⟩:=trodAll_cons t0
 obtain ⟨v2,w2,d2,k2,p2,q2,g2,rfl,rfl,h2,t2⟩:=trodAll_cons t1
 obtain ⟨v3,w3,d3,k3,p3,q3,g3,rfl,rfl,h3,t3⟩:=trodAll_cons t2
 obtain ⟨rfl,rfl,rfl⟩:=trodAll_nil t3
 subst g3
 subst g2
 subst g1
 obtain rfl:args=#[v0,v1,v2,v3]:=by cases args;simp_all
 have hbk:=q72 hk
 simp [Rows.uptoBulkAll] at hbk
 obtain ⟨f0,to0,e0,fs0,bd0,rm0,lo0,lf0,le0⟩:=qnc (okWide_struct Tryz.underlying30 (hval 0 30 v0 rfl rfl)) (by omega) h0
 obtain ⟨x1,rx1,sx1⟩:=qnh (okWide_string Tryz.underlying9 (hval 1 9 v1 rfl rfl)) (by omega) h1
 obtain ⟨x2,rx2,sx2⟩:=qnh (okWide_string Tryz.underlying9 (hval 2 9 v2 rfl rfl)) (by omega) h2
 obtain ⟨n3,rn3⟩:=qnb (w:=W) (okWide_int Tryz.underlying3 (hval 3 3 v3 rfl rfl))
 have hc:=qc7 (q18y (me:=x1) ⟨(fun x hx=>by cases hx),lo0.fr,lo0.rl,lo0.ad,Nat.le_trans le0 (by decide),lo0.bl,Nat.le_trans sx1 (by decide)⟩ (Nat.le_trans le0 (by decide)) fs0 x2 n3)
 obtain ⟨hsz,hrep⟩:=RepA.get (us:=[v0,v1,v2,v3]) (xs:=_) (W:=W) (show RepA W _ [_,_,_,_] from ⟨rm0,rx1,rx2,rn3,trivial⟩)
 refine (qjz (cargs:=#[v0,v1,v2,v3]) hc hG rfl ?_).mono fun e W' ⟨he,hb⟩=>?_
 ·intro i u x hu hx
  exact hrep i u x (by simpa using hu) hx
 subst he
 exact ⟨_,rfl,qk0 (tb:=4) qk (by kernel_rfl) rfl Tryz.underlying4 rfl rfl hW' hb⟩
theorem q18z (os:Os) {H:Type} (enc:TypeId×Value→H) :
  (Rows.OpenSpec.upto Rows.topRepliesDoNotEchoSpec).preRow enc Tryz.prog Tryz.f3 Rows.topRepliesDoNotEchoUptoRow.domain false laidL ((laidWorld os #[.agg #[.string ⟨#[]⟩,.slice none 0 0,.string ⟨#[]⟩,.slice none 0 0,.slice none 0 0],.string ⟨#[]⟩,.string ⟨#[]⟩,.int .i64 0]).forCall (fun _ _=>0) ⟨#[],#[.agg #[.string ⟨#[]⟩,.slice none 0 0,.string ⟨#[]⟩,.slice none 0 0,.slice none 0 0],.string ⟨#[]⟩,.string ⟨#[]⟩,.int .i64 0],[]⟩).memory #[.agg #[.string ⟨#[]⟩,.slice none 0 0,.string ⟨#[]⟩,.slice none 0 0,.slice none 0 0],.string ⟨#[]⟩,.string ⟨#[]⟩,.int .i64 0]:=by
 have hw:(DataW.whole enc Tryz.prog ((laidWorld os #[.agg #[.string ⟨#[]⟩,.slice none 0 0,.string ⟨#[]⟩,.slice none 0 0,.slice none 0 0],.string ⟨#[]⟩,.string ⟨#[]⟩,.int .i64 0]).forCall (fun _ _=>0) ⟨#[],#[.agg #[.string ⟨#[]⟩,.slice none 0 0,.string ⟨#[]⟩,.slice none 0 0,.slice none 0 0],.string ⟨#[]⟩,.string ⟨#[]⟩,.int .i64 0],[]⟩).memory Tryz.f3.params.toList (Rows.OpenSpec.upto Rows.topRepliesDoNotEchoSpec).vars false (#[.agg #[.string ⟨#[]⟩,.slice none 0 0,.string ⟨#[]⟩,.slice none 0 0,.slice none 0 0],.string ⟨#[]⟩,.string ⟨#[]⟩,.int .i64 0]:Array Value).toList 8).map (fun x=>(x.1,x.2.1)) =
   some ([.agg [.agg [.lit (.string []),.nil,.lit (.string [])],.agg [.nil,.nil]],.lit (.string []),.lit (.string []),.lit (.int .i64 0)],[]):=by kernel_rfl
 obtain ⟨⟨x1,x2,x3⟩,hx,hx1⟩:=Option.map_eq_some_iff.1 hw
 simp only [Prod.mk.injEq] at hx1
 obtain ⟨rfl,rfl⟩:=hx1
 exact OpenSpec.preRow_of_cond 8 hx (by kernel_rfl) (fun k hk=>by cases hk;kernel_rfl) (by kernel_rfl) (qjr os _)
set_option maxRecDepth 100000 in
theorem q18w (os:Os) (started:os.Started) (H:Type) (enc:TypeId×Value→H) (F:Stop.Interp) :
  ReturnsInHanded {} Tryz.checked os 3 .any ((Rows.OpenSpec.upto Rows.topRepliesDoNotEchoSpec).preRow enc Tryz.prog Tryz.f3 Rows.topRepliesDoNotEchoUptoRow.domain false laidL) (((Rows.OpenSpec.upto Rows.topRepliesDoNotEchoSpec).at F).post enc Tryz.prog Tryz.f3 false true false false):=by
 refine returnsInHanded_of_row (C:=Tryz.checked) (s:=Rows.OpenSpec.upto Rows.topRepliesDoNotEchoSpec) ql started (by kernel_rfl) Tryz.func3
  (witness_row_at (enc:=enc) (C:=Tryz.checked) false (laidWorld os #[.agg #[.string ⟨#[]⟩,.slice none 0 0,.string ⟨#[]⟩,.slice none 0 0,.slice none 0 0],.string ⟨#[]⟩,.string ⟨#[]⟩,.int .i64 0]) #[.agg #[.string ⟨#[]⟩,.slice none 0 0,.string ⟨#[]⟩,.slice none 0 0,.slice none 0 0],.string ⟨#[]⟩,.string ⟨#[]⟩,.int .i64 0] rfl (by kernel_rfl) (by kernel_rfl) (by kernel_rfl) (q18z os enc)) ?_
 intro W base args ds gs before hval hW _ hk _ hL hS _
 exact q18u H enc W base args ds gs before hval hW (hk _ rfl) (gw_row hS hL)
theorem q18v:joinedFacts Tryz.pinned.checked.prog 3 Tryz.f3 (Rows.OpenSpec.upto Rows.topRepliesDoNotEchoSpec).bare Rows.topRepliesDoNotEchoUptoRow=true:=by
 have hl:(Rows.topRepliesDoNotEchoUptoRow.lifted==Tryz.pinned.checked.prog.liftsFinal)=true:=fLift
 have hm:(Tryz.pinned.checked.prog.make==some Rows.topRepliesDoNotEchoUptoRow.make)=true:=fMake
 unfold joinedFacts
 rw [hl,hm,fMay]
 decide +kernel
theorem q18x:Rows.TopRepliesDoNotEchoUptoSaid :=
 OpenClaim.holds_of_cond 3 Tryz.f3 rfl rfl rfl rfl rfl rfl rfl ⟨rfl,rfl,rfl,rfl,rfl⟩ rfl rfl rfl rfl rfl (by kernel_rfl) Tryz.func3 q18v
  (of_decide_eq_true (by kernel_rfl)) (by unfold Func.isWrapper;first|(rw [if_pos (by decide +kernel)];kernel_rfl)|(rw [if_neg (by decide +kernel)];exact ⟨rfl,rfl⟩))
  (fun os started H enc _ F=>by rw [OpenClaim.pre_eq_preRow];exact q18w os started H enc F)
theorem law23_holds:Rows.TopRepliesDoNotEchoUptoCardSaid :=
 Claim7.holds_tied_plain_at .later [] [.data, .data, .data, .data, .sentinel, .sentinel, .pinned] true (true, "67013176d7aea527e96d8053c1f71df1d02dd6074fe1728d7906a62a77733b26") true
  q18x (fun _ h=>by cases h) (by kernel_rfl) (fun _ h=>by cases h) topRepliesDoNotEchoUpto_row_tie rfl ⟨rfl,rfl⟩ fMain rfl
  (fun f fn hf hfn=>by
   obtain rfl : f = 3 := Option.some.inj ((show Tryz.prog.funcNamed "posthouse/posthousetop.TopRepliesDoNotEcho" = some 3 by kernel_rfl).symm.trans hf) |>.symm
   obtain rfl:fn=Tryz.f3:=(Option.some.inj (Tryz.func3.symm.trans hfn)).symm
   refine ⟨fLooks,fun j t ht=>?_⟩
   rw [Tryz.params3] at ht
   rcases j with _|j
   ·obtain rfl:t=30:=by simpa using ht.symm
    exact (show Tryz.prog.wantsStandIn 30=false by kernel_rfl)
   rcases j with _|j
   ·obtain rfl:t=9:=by simpa using ht.symm
    exact (show Tryz.prog.wantsStandIn 9=false by kernel_rfl)
   rcases j with _|j
   ·obtain rfl:t=9:=by simpa using ht.symm
    exact (show Tryz.prog.wantsStandIn 9=false by kernel_rfl)
   rcases j with _|j
   ·obtain rfl:t=3:=by simpa using ht.symm
    exact (show Tryz.prog.wantsStandIn 3=false by kernel_rfl)
   ·simp at ht)
  (by kernel_rfl)
end Go.Proofs.YtmacbkjehjbjeaaGreatDoor
