/- The statement MeetingNeedsAll holds: for every argument the law returns true, and the arguments read as before. No conditions. -/
import Derived.Test.YtgmjhnijnpfkgaaS6
import Derived.Test.YtgmjhnijnpfkgaaS9
namespace Go.Proofs.Ytgmjhnijnpfkgaa
open Go.ChangeShapes Go.WideShapes Go.ChangeAt Go.RowKit Go.Deep

theorem law5_own : ownKnob Try.prog.godebug = none := by kernel_rfl
theorem law5_laid : laidOutB Try.prog = true := by kernel_rfl
set_option maxRecDepth 100000 in
theorem law5_contract (H : Type) (enc : TypeId × Value → H) (W : World) (base : Nat) (args : Array Value) (ds gs : List (DataW H)) (before : List MemPlace)
    (hval : ∀ (j : Nat) t v, Try.f7.params[j]? = some t → args[j]? = some v → Value.okWide Try.prog W .any base t v)
    (hW : DataW.Whole enc Try.prog Try.f7.params.toList Rows.meetingNeedsAllSpec.vars false W args.toList ds gs before) :
    Calls Try.prog 7 args W fun e W' => ∃ v, e = .returned v ∧ Rows.meetingNeedsAllSpec.post enc Try.prog Try.f7 false true false false W args v W' := by
  have hW' := hW
  obtain ⟨p, q, hA, hV, _, _, _⟩ := hW
  rw [Try.params7] at hA hval
  obtain ⟨v0, vs0, d0, ds0, p0, q0, hargs, rfl, rfl, h0, r0⟩ := trodAll_cons hA
  obtain ⟨v1, vs1, d1, ds1, p1, q1, rfl, rfl, rfl, h1, r1⟩ := trodAll_cons r0
  obtain ⟨v2, vs2, d2, ds2, p2, q2, rfl, rfl, rfl, h2, r2⟩ := trodAll_cons r1
  obtain ⟨v3, vs3, d3, ds3, p3, q3, rfl, rfl, rfl, h3, r3⟩ := trodAll_cons r2
  obtain ⟨rfl, rfl, rfl⟩ := trodAll_nil r3
  obtain rfl : args = #[v0, v1, v2, v3] := by cases args; simp_all
  obtain ⟨o0, l0, n0, f0, t0, c0, m0, hl0⟩ := open_meet (hval 0 40 v0 rfl rfl) h0
  obtain ⟨f1, t1, m1⟩ := open_perV (hval 1 38 v1 rfl rfl) h1
  obtain ⟨f2, t2, m2⟩ := open_perV (hval 2 38 v2 rfl rfl) h2
  obtain ⟨n3, rfl, _, _, _⟩ := open_int Try.underlying3 (hval 3 3 v3 rfl rfl) h3
  have m3 : Rep (Zw W) (fun _ _ => none) noM (.int .i64 n3) (.c (.int .i64 n3)) := .c (.int _ _)
  have hc := fS_call (law_needs ⟨o0, l0, n0, f0, t0, c0⟩ f1 t1 f2 t2 n3 hl0)
  refine (law_calls (cargs := #[v0, v1, v2, .int .i64 n3]) hc rfl ?_).mono fun e W' ⟨he, hb⟩ => ?_
  · intro i u x hu hx
    match i with
    | 0 => simp at hu; subst hu; injection hx with hx; subst hx; exact m0
    | 1 => simp at hu; subst hu; injection hx with hx; subst hx; exact m1
    | 2 => simp at hu; subst hu; injection hx with hx; subst hx; exact m2
    | 3 => simp at hu; subst hu; injection hx with hx; subst hx; exact m3
    | i + 4 => simp at hu
  subst he
  exact ⟨_, rfl, law_post (tb := 4) law5_laid (by kernel_rfl) rfl Try.underlying4 rfl rfl hW' hb⟩

set_option maxRecDepth 100000 in
theorem law5_lifted (os : Os) (started : os.Started) (H : Type) (enc : TypeId × Value → H) :
    ReturnsInHanded {} Try.checked os 7 .any (Rows.meetingNeedsAllSpec.pre6 enc Try.prog Try.f7 Rows.meetingNeedsAllRow.domain false) (Rows.meetingNeedsAllSpec.post enc Try.prog Try.f7 false true false false) := by
  refine returnsInHanded_of_change (C := Try.checked) law5_own started (by kernel_rfl) Try.func7
    (ChangeSpec.witness6 (enc := enc) (C := Try.checked) false ⟨#[], #[.agg #[.string ⟨#[]⟩, .slice none 0 0, .int .i64 0, .int .i64 0, .int .i64 0, .bool false], .agg #[.int .i64 0, .int .i64 0], .agg #[.int .i64 0, .int .i64 0], .int .i64 0], []⟩ 8 (by kernel_rfl) (by kernel_rfl) (by kernel_rfl) (by kernel_rfl)) ?_
  intro W base args ds gs before hval hW _ _
  exact law5_contract H enc W base args ds gs before hval hW

theorem law5_holds : Rows.MeetingNeedsAllSaid :=
  OpenClaim.holds_of_wide 7 Try.f7 rfl rfl rfl rfl rfl rfl rfl ⟨rfl, rfl, rfl, rfl, rfl⟩ rfl rfl rfl rfl rfl (by kernel_rfl) Try.func7 (by kernel_rfl)
    (of_decide_eq_true (by kernel_rfl)) (by unfold Func.isWrapper; first | (rw [if_pos (by decide +kernel)]; kernel_rfl) | (rw [if_neg (by decide +kernel)]; exact ⟨rfl, rfl⟩))
    (fun os started H enc _ => law5_lifted os started H enc)
end Go.Proofs.Ytgmjhnijnpfkgaa
