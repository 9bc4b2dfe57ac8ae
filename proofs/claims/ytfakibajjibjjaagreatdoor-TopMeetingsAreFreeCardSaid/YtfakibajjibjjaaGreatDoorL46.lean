/- Statement 46: the row and its card: for every input (no condition on sizes). -/
import Derived.Test.YtfakibajjibjjaaGreatDoorZ41
import Derived.Test.YtfakibajjibjjaaGreatDoorR3
import Derived.Test.YtfakibajjibjjaaGreatDoorR4
import Derived.Test.YtfakibajjibjjaaGreatDoorR5
import Derived.Test.YtfakibajjibjjaaGreatDoorTie
import Derived.Test.YtfakibajjibjjaaGreatDoorCards
namespace Go.Proofs.YtfakibajjibjjaaGreatDoor
open Go.ChangeShapes Go.WideShapes Go.ChangeAt Go.ChangeMaps Go.RowKit Go.Deep
set_option maxRecDepth 100000 in
theorem qns (H:Type) (enc:TypeId×Value→H) (W:World) (base:Nat) (args:Array Value) (ds gs:List (DataW H)) (before:List MemPlace)
  (hval:∀ (j:Nat) t v,Tryz.f3.params[j]?=some t→args[j]?=some v→Value.okWide Tryz.prog W .any base t v)
  (hW:DataW.Whole enc Tryz.prog Tryz.f3.params.toList Rows.topMeetingsAreFreeSpec.vars false W args.toList ds gs before) (hG:GW W) :
  Calls Tryz.prog 3 args W fun e W'=>∃ v,e=.returned v∧Rows.topMeetingsAreFreeSpec.post enc Tryz.prog Tryz.f3 false true false false W args v W':=by
 have hW':=hW
 obtain ⟨p,q,hA,hV,_,_,_⟩:=hW
 obtain ⟨rfl,rfl⟩:=trodVars_none hV
 rw [Tryz.params3] at hA hval
 obtain ⟨v0,w0,d0,k0,p0,q0,g0,rfl,rfl,h0,t0⟩:=trodAll_cons hA
 obtain ⟨v1,w1,d1,k1,p1,q1,g1,rfl,rfl,h1,t1⟩:=trodAll_cons t0
 obtain ⟨v2,w2,d2,k2,p2,q2,g2,rfl,rfl,h2,t2⟩:=trodAll_cons t1
 obtain ⟨v3,w3,d3,k3,p3,q3,g3,rfl,rfl,h3,t3⟩:=trodAll_cons t2
 obtain ⟨v4,w4,d4,k4,p4,q4,g4,rfl,rfl,h4,t4⟩:=trodAll_cons t3
 obtain ⟨v5,w5,d5,k5,p5,q5,g5,rfl,rfl,h5,t5⟩:=trodAll_cons t4
 obtain ⟨rfl,rfl,rfl⟩:=trodAll_nil t5
 subst g5
 subst g4
 subst g3
 subst g2
 subst g1
 obtain rfl:args=#[v0,v1,v2,v3,v4,v5]:=by cases args;simp_all
 obtain ⟨o0,l0,r0,f0,t0,b0,rM0,zM0⟩:=qtr h0 (by obtain ⟨cs,e,_⟩:=okWide_struct Tryz.underlying26 (hval 0 26 v0 rfl rfl);exact ⟨cs,e⟩)
 obtain ⟨l1,rE1,zE1,wE1⟩:=qtm h1 (okWide_slice Tryz.underlying27 (hval 1 27 v1 rfl rfl))
 obtain ⟨l2,rZ2⟩:=qty h2 (okWide_slice Tryz.underlying28 (hval 2 28 v2 rfl rfl))
 obtain ⟨n3,en3,rn3⟩:=qtp (w:=W) (okWide_int Tryz.underlying3 (hval 3 3 v3 rfl rfl))
 obtain ⟨n4,en4,rn4⟩:=qtp (w:=W) (okWide_int Tryz.underlying3 (hval 4 3 v4 rfl rfl))
 obtain ⟨n5,en5,rn5⟩:=qtp (w:=W) (okWide_int Tryz.underlying3 (hval 5 3 v5 rfl rfl))
 have hc:=qf3 (qon o0 l0 r0 f0 t0 b0 l1 l2 n3 n4 n5 wE1 zM0 zE1)
 obtain ⟨hsz,hrep⟩:=RepA.get (us:=[v0,v1,v2,v3,v4,v5]) (xs:=_) (W:=W) (show RepA W _ [_,_,_,_,_,_] from ⟨rM0,rE1,rZ2,rn3,rn4,rn5,trivial⟩)
 refine (qoq (cargs:=#[v0,v1,v2,v3,v4,v5]) hc hG rfl ?_).mono fun e W' ⟨he,hb⟩=>?_
 ·intro i u x hu hx
  exact hrep i u x (by simpa using hu) hx
 subst he
 exact ⟨_,rfl,qor (tb:=4) q12 (by kernel_rfl) rfl Tryz.underlying4 rfl rfl hW' hb⟩
theorem qop (os:Os) {H:Type} (enc:TypeId×Value→H) :
  (OpenSpec.ofChange Rows.topMeetingsAreFreeSpec).preRow enc Tryz.prog Tryz.f3 Rows.topMeetingsAreFreeRow.domain false laidL ((laidWorld os #[.agg #[.string ⟨#[]⟩,.slice none 0 0,.int .i64 0,.int .i64 0,.int .i64 0,.bool false],.slice none 0 0,.slice none 0 0,.int .i64 0,.int .i64 0,.int .i64 0]).forCall (fun _ _=>0) ⟨#[],#[.agg #[.string ⟨#[]⟩,.slice none 0 0,.int .i64 0,.int .i64 0,.int .i64 0,.bool false],.slice none 0 0,.slice none 0 0,.int .i64 0,.int .i64 0,.int .i64 0],[]⟩).memory #[.agg #[.string ⟨#[]⟩,.slice none 0 0,.int .i64 0,.int .i64 0,.int .i64 0,.bool false],.slice none 0 0,.slice none 0 0,.int .i64 0,.int .i64 0,.int .i64 0]:=by
 have hw:(DataW.whole enc Tryz.prog ((laidWorld os #[.agg #[.string ⟨#[]⟩,.slice none 0 0,.int .i64 0,.int .i64 0,.int .i64 0,.bool false],.slice none 0 0,.slice none 0 0,.int .i64 0,.int .i64 0,.int .i64 0]).forCall (fun _ _=>0) ⟨#[],#[.agg #[.string ⟨#[]⟩,.slice none 0 0,.int .i64 0,.int .i64 0,.int .i64 0,.bool false],.slice none 0 0,.slice none 0 0,.int .i64 0,.int .i64 0,.int .i64 0],[]⟩).memory Tryz.f3.params.toList (OpenSpec.ofChange Rows.topMeetingsAreFreeSpec).vars false (#[.agg #[.string ⟨#[]⟩,.slice none 0 0,.int .i64 0,.int .i64 0,.int .i64 0,.bool false],.slice none 0 0,.slice none 0 0,.int .i64 0,.int .i64 0,.int .i64 0]:Array Value).toList 8).map (fun x=>(x.1,x.2.1)) =
   some ([.agg [.lit (.string []),.nil,.lit (.int .i64 0),.agg [.lit (.int .i64 0),.lit (.int .i64 0)],.lit (.bool false)],.nil,.nil,.lit (.int .i64 0),.lit (.int .i64 0),.lit (.int .i64 0)],[]):=by kernel_rfl
 obtain ⟨⟨x1,x2,x3⟩,hx,hx1⟩:=Option.map_eq_some_iff.1 hw
 simp only [Prod.mk.injEq] at hx1
 obtain ⟨rfl,rfl⟩:=hx1
 exact OpenSpec.preRow_of_cond 8 hx (by kernel_rfl) (fun k hk=>by cases hk) (by kernel_rfl) (qno os _)
set_option maxRecDepth 100000 in
theorem qok (os:Os) (started:os.Started) (H:Type) (enc:TypeId×Value→H) (F:Stop.Interp) :
  ReturnsInHanded {} Tryz.checked os 3 .any ((OpenSpec.ofChange Rows.topMeetingsAreFreeSpec).preRow enc Tryz.prog Tryz.f3 Rows.topMeetingsAreFreeRow.domain false laidL) (((OpenSpec.ofChange Rows.topMeetingsAreFreeSpec).at F).post enc Tryz.prog Tryz.f3 false true false false):=by
 refine returnsInHanded_of_row (C:=Tryz.checked) (s:=OpenSpec.ofChange Rows.topMeetingsAreFreeSpec) q13 started (by kernel_rfl) Tryz.func3
  (witness_row_at (enc:=enc) (C:=Tryz.checked) false (laidWorld os #[.agg #[.string ⟨#[]⟩,.slice none 0 0,.int .i64 0,.int .i64 0,.int .i64 0,.bool false],.slice none 0 0,.slice none 0 0,.int .i64 0,.int .i64 0,.int .i64 0]) #[.agg #[.string ⟨#[]⟩,.slice none 0 0,.int .i64 0,.int .i64 0,.int .i64 0,.bool false],.slice none 0 0,.slice none 0 0,.int .i64 0,.int .i64 0,.int .i64 0] rfl (by kernel_rfl) (by kernel_rfl) (by kernel_rfl) (qop os enc)) ?_
 intro W base args ds gs before hval hW _ _ _ hL hS _
 exact qns H enc W base args ds gs before hval hW (gw_row hS hL)
theorem qnv:joinedFacts Tryz.pinned.checked.prog 3 Tryz.f3 (OpenSpec.ofChange Rows.topMeetingsAreFreeSpec).bare Rows.topMeetingsAreFreeRow=true:=by
 have hl:(Rows.topMeetingsAreFreeRow.lifted==Tryz.pinned.checked.prog.liftsFinal)=true:=fLift
 have hm:(Tryz.pinned.checked.prog.make==some Rows.topMeetingsAreFreeRow.make)=true:=fMake
 unfold joinedFacts
 rw [hl,hm,fMay]
 decide +kernel
theorem qol:Rows.TopMeetingsAreFreeSaid :=
 OpenClaim.holds_of_cond 3 Tryz.f3 rfl rfl rfl rfl rfl rfl rfl ⟨rfl,rfl,rfl,rfl,rfl⟩ rfl rfl rfl rfl rfl (by kernel_rfl) Tryz.func3 qnv
  (of_decide_eq_true (by kernel_rfl)) (by unfold Func.isWrapper;first|(rw [if_pos (by decide +kernel)];kernel_rfl)|(rw [if_neg (by decide +kernel)];exact ⟨rfl,rfl⟩))
  (fun os started H enc _ F=>by rw [OpenClaim.pre_eq_preRow];exact qok os started H enc F)
theorem law46_holds:Rows.TopMeetingsAreFreeCardSaid :=
 Claim7.holds_tied_plain_at .later [] [.data, .data, .data, .data, .sentinel, .sentinel, .pinned] true (true, "ea45fb5b0eaa8a17a3e2f0169f12f9a0dec60584fb3ad6871655cc71da9decec") true
  qol (fun _ h=>by cases h) (by kernel_rfl) (fun _ h=>by cases h) topMeetingsAreFree_row_tie rfl ⟨rfl,rfl⟩ fMain rfl
  (fun f fn hf hfn=>by
   obtain rfl : f = 3 := Option.some.inj ((show Tryz.prog.funcNamed "posthouse/posthousetop.TopMeetingsAreFree" = some 3 by kernel_rfl).symm.trans hf) |>.symm
   obtain rfl:fn=Tryz.f3:=(Option.some.inj (Tryz.func3.symm.trans hfn)).symm
   refine ⟨fLooks,fun j t ht=>?_⟩
   rw [Tryz.params3] at ht
   rcases j with _|j
   ·obtain rfl:t=26:=by simpa using ht.symm
    exact (show Tryz.prog.wantsStandIn 26=false by kernel_rfl)
   rcases j with _|j
   ·obtain rfl:t=27:=by simpa using ht.symm
    exact (show Tryz.prog.wantsStandIn 27=false by kernel_rfl)
   rcases j with _|j
   ·obtain rfl:t=28:=by simpa using ht.symm
    exact (show Tryz.prog.wantsStandIn 28=false by kernel_rfl)
   rcases j with _|j
   ·obtain rfl:t=3:=by simpa using ht.symm
    exact (show Tryz.prog.wantsStandIn 3=false by kernel_rfl)
   rcases j with _|j
   ·obtain rfl:t=3:=by simpa using ht.symm
    exact (show Tryz.prog.wantsStandIn 3=false by kernel_rfl)
   rcases j with _|j
   ·obtain rfl:t=3:=by simpa using ht.symm
    exact (show Tryz.prog.wantsStandIn 3=false by kernel_rfl)
   ·simp at ht)
  (by kernel_rfl)
end Go.Proofs.YtfakibajjibjjaaGreatDoor
