/- The statement MeetingReviseMatchesSpec holds: for every argument the law returns true, and the arguments read as before. No conditions. -/
import Derived.Test.YtgmjhnijnpfkgaaS7
import Derived.Test.YtgmjhnijnpfkgaaS9
namespace Go.Proofs.Ytgmjhnijnpfkgaa
open Go.ChangeShapes Go.WideShapes Go.ChangeAt Go.RowKit Go.Deep

theorem law7_own : ownKnob Try.prog.godebug = none := by kernel_rfl
theorem law7_laid : laidOutB Try.prog = true := by kernel_rfl
set_option maxRecDepth 100000 in
theorem law7_contract (H : Type) (enc : TypeId × Value → H) (W : World) (base : Nat) (args : Array Value) (ds gs : List (DataW H)) (before : List MemPlace)
    (hval : ∀ (j : Nat) t v, Try.f9.params[j]? = some t → args[j]? = some v → Value.okWide Try.prog W .any base t v)
    (hW : DataW.Whole enc Try.prog Try.f9.params.toList Rows.meetingReviseMatchesSpecSpec.vars false W args.toList ds gs before) :
    Calls Try.prog 9 args W fun e W' => ∃ v, e = .returned v ∧ Rows.meetingReviseMatchesSpecSpec.post enc Try.prog Try.f9 false true false false W args v W' := by
  have hW' := hW
  obtain ⟨p, q, hA, hV, _, _, _⟩ := hW
  rw [Try.params9] at hA hval
  obtain ⟨v0, vs0, d0, ds0, p0, q0, hargs, rfl, rfl, h0, r0⟩ := trodAll_cons hA
  obtain ⟨rfl, rfl, rfl⟩ := trodAll_nil r0
  obtain rfl : args = #[v0] := by cases args; simp_all
  obtain ⟨o0, l0, n0, f0, t0, c0, m0, hl0⟩ := open_meet (hval 0 40 v0 rfl rfl) h0
  have hc := fS_call (law_revise ⟨o0, l0, n0, f0, t0, c0⟩ hl0)
  refine (law_calls (cargs := #[v0]) hc rfl ?_).mono fun e W' ⟨he, hb⟩ => ?_
  · intro i u x hu hx
    match i with
    | 0 => simp at hu; subst hu; injection hx with hx; subst hx; exact m0
    | i + 1 => simp at hu
  subst he
  exact ⟨_, rfl, law_post (tb := 4) law7_laid (by kernel_rfl) rfl Try.underlying4 rfl rfl hW' hb⟩

set_option maxRecDepth 100000 in
theorem law7_lifted (os : Os) (started : os.Started) (H : Type) (enc : TypeId × Value → H) :
    ReturnsInHanded {} Try.checked os 9 .any (Rows.meetingReviseMatchesSpecSpec.pre6 enc Try.prog Try.f9 Rows.meetingReviseMatchesSpecRow.domain false) (Rows.meetingReviseMatchesSpecSpec.post enc Try.prog Try.f9 false true false false) := by
  refine returnsInHanded_of_change (C := Try.checked) law7_own started (by kernel_rfl) Try.func9
    (ChangeSpec.witness6 (enc := enc) (C := Try.checked) false ⟨#[], #[.agg #[.string ⟨#[]⟩, .slice none 0 0, .int .i64 0, .int .i64 0, .int .i64 0, .bool false]], []⟩ 8 (by kernel_rfl) (by kernel_rfl) (by kernel_rfl) (by kernel_rfl)) ?_
  intro W base args ds gs before hval hW _ _
  exact law7_contract H enc W base args ds gs before hval hW

theorem law7_holds : Rows.MeetingReviseMatchesSpecSaid :=
  OpenClaim.holds_of_wide 9 Try.f9 rfl rfl rfl rfl rfl rfl rfl ⟨rfl, rfl, rfl, rfl, rfl⟩ rfl rfl rfl rfl rfl (by kernel_rfl) Try.func9 (by kernel_rfl)
    (of_decide_eq_true (by kernel_rfl)) (by unfold Func.isWrapper; first | (rw [if_pos (by decide +kernel)]; kernel_rfl) | (rw [if_neg (by decide +kernel)]; exact ⟨rfl, rfl⟩))
    (fun os started H enc _ => law7_lifted os started H enc)
end Go.Proofs.Ytgmjhnijnpfkgaa
