/- Statement 32: the row. -/
import Derived.Test.YtepmpilapglklaaGreatZ33
import Derived.Test.YtepmpilapglklaaGreatR4
namespace Go.Proofs.YtepmpilapglklaaGreat
open Go.ChangeShapes Go.WideShapes Go.ChangeAt Go.ChangeMaps Go.RowKit Go.Deep
set_option maxRecDepth 100000 in
theorem q16r (H:Type) (enc:TypeId×Value→H) (W:World) (base:Nat) (args:Array Value) (ds gs:List (DataW H)) (before:List MemPlace)
  (hval:∀ (j:Nat) t v,Tryz.f4.params[j]?=some t→args[j]?=some v→Value.okWide Tryz.prog W .any base t v)
  (hW:DataW.Whole enc Tryz.prog Tryz.f4.params.toList Rows.vacationAnswersOnceSpec.vars false W args.toList ds gs before) (hk:Rows.uptoSmall H (ds++gs)=true) (hG:GW W) :
  Calls Tryz.prog 4 args W fun e W'=>∃ v,e=.returned v∧Rows.vacationAnswersOnceSpec.post enc Tryz.prog Tryz.f4 false true false false W args v W':=by
 have hW':=hW
 obtain ⟨p,q,hA,hV,_,_,_⟩:=hW
 obtain ⟨rfl,rfl⟩:=trodVars_none hV
 rw [Tryz.params4] at hA hval
 obtain ⟨v0,w0,d0,k0,p0,q0,g0,rfl,rfl,h0,t0⟩:=trodAll_cons hA
 obtain ⟨v1,w1,d1,k1,p1,q1,g1,rfl,rfl,h1,t1⟩:=trodAll_cons t0
 obtain ⟨v2,w2,d2,k2,p2,q2,g2,rfl,rfl,h2,t2⟩:=trodAll_cons t1
 obtain ⟨v3,w3,d3,k3,p3,q3,g3,rfl,rfl,h3,t3⟩:=trodAll_cons t2
 obtain ⟨v4,w4,d4,k4,p4,q4,g4,rfl,rfl,h4,t4⟩:=trodAll_cons t3
 obtain ⟨v5,w5,d5,k5,p5,q5,g5,rfl,rfl,h5,t5⟩:=trodAll_cons t4
 obtain ⟨v6,w6,d6,k6,p6,q6,g6,rfl,rfl,h6,t6⟩:=trodAll_cons t5
 obtain ⟨rfl,rfl,rfl⟩:=trodAll_nil t6
 subst g6
 subst g5
 subst g4
 subst g3
 subst g2
 subst g1
 obtain rfl:args=#[v0,v1,v2,v3,v4,v5,v6]:=by cases args;simp_all
 have hbk:=q72 hk
 simp [Rows.uptoBulkAll] at hbk
 obtain ⟨l0,rl0,sz0⟩:=qnf (okWide_slice Tryz.underlying22 (hval 0 22 v0 rfl rfl)) (by omega) h0
 obtain ⟨f1,to1,e1,fs1,bd1,rm1,lo1,lf1,le1⟩:=qnc (okWide_struct Tryz.underlying31 (hval 1 31 v1 rfl rfl)) (by omega) h1
 obtain ⟨f2,to2,e2,fs2,bd2,rm2,lo2,lf2,le2⟩:=qnc (okWide_struct Tryz.underlying31 (hval 2 31 v2 rfl rfl)) (by omega) h2
 obtain ⟨x3,rx3,sx3⟩:=qnh (okWide_string Tryz.underlying9 (hval 3 9 v3 rfl rfl)) (by omega) h3
 obtain ⟨x4,rx4,sx4⟩:=qnh (okWide_string Tryz.underlying9 (hval 4 9 v4 rfl rfl)) (by omega) h4
 obtain ⟨n5,rn5⟩:=qnb (w:=W) (okWide_int Tryz.underlying3 (hval 5 3 v5 rfl rfl))
 obtain ⟨n6,rn6⟩:=qnb (w:=W) (okWide_int Tryz.underlying3 (hval 6 3 v6 rfl rfl))
 have hc:=qc7 (q16u (me:=x3) ⟨sz0,lo1.fr,lo1.rl,lo1.ad,Nat.le_trans le1 (by decide),lo1.bl,Nat.le_trans sx3 (by decide)⟩ fs1 ⟨(fun x hx=>by cases hx),lo2.fr,lo2.rl,lo2.ad,Nat.le_trans le2 (by decide),lo2.bl,Nat.le_trans sx3 (by decide)⟩ fs2 x4 n5 n6)
 obtain ⟨hsz,hrep⟩:=RepA.get (us:=[v0,v1,v2,v3,v4,v5,v6]) (xs:=_) (W:=W) (show RepA W _ [_,_,_,_,_,_,_] from ⟨rl0,rm1,rm2,rx3,rx4,rn5,rn6,trivial⟩)
 refine (qjz (cargs:=#[v0,v1,v2,v3,v4,v5,v6]) hc hG rfl ?_).mono fun e W' ⟨he,hb⟩=>?_
 ·intro i u x hu hx
  exact hrep i u x (by simpa using hu) hx
 subst he
 exact ⟨_,rfl,qk0 (tb:=4) qk (by kernel_rfl) rfl Tryz.underlying4 rfl rfl hW' hb⟩
theorem q16v (os:Os) {H:Type} (enc:TypeId×Value→H) :
  (Rows.OpenSpec.upto Rows.vacationAnswersOnceSpec).preRow enc Tryz.prog Tryz.f4 Rows.vacationAnswersOnceUptoRow.domain false laidL ((laidWorld os #[.slice none 0 0,.agg #[.string ⟨#[]⟩,.slice none 0 0,.string ⟨#[]⟩,.slice none 0 0,.slice none 0 0],.agg #[.string ⟨#[]⟩,.slice none 0 0,.string ⟨#[]⟩,.slice none 0 0,.slice none 0 0],.string ⟨#[]⟩,.string ⟨#[]⟩,.int .i64 0,.int .i64 0]).forCall (fun _ _=>0) ⟨#[],#[.slice none 0 0,.agg #[.string ⟨#[]⟩,.slice none 0 0,.string ⟨#[]⟩,.slice none 0 0,.slice none 0 0],.agg #[.string ⟨#[]⟩,.slice none 0 0,.string ⟨#[]⟩,.slice none 0 0,.slice none 0 0],.string ⟨#[]⟩,.string ⟨#[]⟩,.int .i64 0,.int .i64 0],[]⟩).memory #[.slice none 0 0,.agg #[.string ⟨#[]⟩,.slice none 0 0,.string ⟨#[]⟩,.slice none 0 0,.slice none 0 0],.agg #[.string ⟨#[]⟩,.slice none 0 0,.string ⟨#[]⟩,.slice none 0 0,.slice none 0 0],.string ⟨#[]⟩,.string ⟨#[]⟩,.int .i64 0,.int .i64 0]:=by
 have hw:(DataW.whole enc Tryz.prog ((laidWorld os #[.slice none 0 0,.agg #[.string ⟨#[]⟩,.slice none 0 0,.string ⟨#[]⟩,.slice none 0 0,.slice none 0 0],.agg #[.string ⟨#[]⟩,.slice none 0 0,.string ⟨#[]⟩,.slice none 0 0,.slice none 0 0],.string ⟨#[]⟩,.string ⟨#[]⟩,.int .i64 0,.int .i64 0]).forCall (fun _ _=>0) ⟨#[],#[.slice none 0 0,.agg #[.string ⟨#[]⟩,.slice none 0 0,.string ⟨#[]⟩,.slice none 0 0,.slice none 0 0],.agg #[.string ⟨#[]⟩,.slice none 0 0,.string ⟨#[]⟩,.slice none 0 0,.slice none 0 0],.string ⟨#[]⟩,.string ⟨#[]⟩,.int .i64 0,.int .i64 0],[]⟩).memory Tryz.f4.params.toList (Rows.OpenSpec.upto Rows.vacationAnswersOnceSpec).vars false (#[.slice none 0 0,.agg #[.string ⟨#[]⟩,.slice none 0 0,.string ⟨#[]⟩,.slice none 0 0,.slice none 0 0],.agg #[.string ⟨#[]⟩,.slice none 0 0,.string ⟨#[]⟩,.slice none 0 0,.slice none 0 0],.string ⟨#[]⟩,.string ⟨#[]⟩,.int .i64 0,.int .i64 0]:Array Value).toList 8).map (fun x=>(x.1,x.2.1)) =
   some ([.nil,.agg [.agg [.lit (.string []),.nil,.lit (.string [])],.agg [.nil,.nil]],.agg [.agg [.lit (.string []),.nil,.lit (.string [])],.agg [.nil,.nil]],.lit (.string []),.lit (.string []),.lit (.int .i64 0),.lit (.int .i64 0)],[]):=by kernel_rfl
 obtain ⟨⟨x1,x2,x3⟩,hx,hx1⟩:=Option.map_eq_some_iff.1 hw
 simp only [Prod.mk.injEq] at hx1
 obtain ⟨rfl,rfl⟩:=hx1
 exact OpenSpec.preRow_of_cond 8 hx (by kernel_rfl) (fun k hk=>by cases hk;kernel_rfl) (by kernel_rfl) (qjr os _)
set_option maxRecDepth 100000 in
theorem q16t (os:Os) (started:os.Started) (H:Type) (enc:TypeId×Value→H) (F:Stop.Interp) :
  ReturnsInHanded {} Tryz.checked os 4 .any ((Rows.OpenSpec.upto Rows.vacationAnswersOnceSpec).preRow enc Tryz.prog Tryz.f4 Rows.vacationAnswersOnceUptoRow.domain false laidL) (((Rows.OpenSpec.upto Rows.vacationAnswersOnceSpec).at F).post enc Tryz.prog Tryz.f4 false true false false):=by
 refine returnsInHanded_of_row (C:=Tryz.checked) (s:=Rows.OpenSpec.upto Rows.vacationAnswersOnceSpec) ql started (by kernel_rfl) Tryz.func4
  (witness_row_at (enc:=enc) (C:=Tryz.checked) false (laidWorld os #[.slice none 0 0,.agg #[.string ⟨#[]⟩,.slice none 0 0,.string ⟨#[]⟩,.slice none 0 0,.slice none 0 0],.agg #[.string ⟨#[]⟩,.slice none 0 0,.string ⟨#[]⟩,.slice none 0 0,.slice none 0 0],.string ⟨#[]⟩,.string ⟨#[]⟩,.int .i64 0,.int .i64 0]) #[.slice none 0 0,.agg #[.string ⟨#[]⟩,.slice none 0 0,.string ⟨#[]⟩,.slice none 0 0,.slice none 0 0],.agg #[.string ⟨#[]⟩,.slice none 0 0,.string ⟨#[]⟩,.slice none 0 0,.slice none 0 0],.string ⟨#[]⟩,.string ⟨#[]⟩,.int .i64 0,.int .i64 0] rfl (by kernel_rfl) (by kernel_rfl) (by kernel_rfl) (q16v os enc)) ?_
 intro W base args ds gs before hval hW _ hk _ _ hS _
 exact q16r H enc W base args ds gs before hval hW (hk _ rfl) (gw_row hS)
theorem q16s:joinedFacts Tryz.pinned.checked.prog 4 Tryz.f4 (Rows.OpenSpec.upto Rows.vacationAnswersOnceSpec).bare Rows.vacationAnswersOnceUptoRow=true:=by
 have hl:(Rows.vacationAnswersOnceUptoRow.lifted==Tryz.pinned.checked.prog.liftsFinal)=true:=fLift
 have hm:(Tryz.pinned.checked.prog.make==some Rows.vacationAnswersOnceUptoRow.make)=true:=fMake
 unfold joinedFacts
 rw [hl,hm,fMay]
 decide +kernel
theorem law32_holds:Rows.VacationAnswersOnceUptoSaid :=
 OpenClaim.holds_of_cond 4 Tryz.f4 rfl rfl rfl rfl rfl rfl rfl ⟨rfl,rfl,rfl,rfl,rfl⟩ rfl rfl rfl rfl rfl (by kernel_rfl) Tryz.func4 q16s
  (of_decide_eq_true (by kernel_rfl)) (by unfold Func.isWrapper;first|(rw [if_pos (by decide +kernel)];kernel_rfl)|(rw [if_neg (by decide +kernel)];exact ⟨rfl,rfl⟩))
  (fun os started H enc _ F=>by rw [OpenClaim.pre_eq_preRow];exact q16t os started H enc F)
end Go.Proofs.YtepmpilapglklaaGreat
