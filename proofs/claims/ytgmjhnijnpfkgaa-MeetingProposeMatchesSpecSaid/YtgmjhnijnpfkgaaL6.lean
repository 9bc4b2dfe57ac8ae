/- The statement MeetingProposeMatchesSpec holds: for every meeting and period the law returns true, and the arguments read as before. No conditions. -/
import Derived.Test.YtgmjhnijnpfkgaaS4
import Derived.Test.YtgmjhnijnpfkgaaS9
namespace Go.Proofs.Ytgmjhnijnpfkgaa
open Go.ChangeShapes Go.WideShapes Go.ChangeAt Go.RowKit Go.Deep

theorem ownA : ownKnob Try.prog.godebug = none := by kernel_rfl
theorem laidA : laidOutB Try.prog = true := by kernel_rfl
set_option maxRecDepth 100000 in
theorem proposeLaw_contract (H : Type) (enc : TypeId × Value → H) (W : World) (base : Nat) (args : Array Value) (ds gs : List (DataW H)) (before : List MemPlace)
    (hval : ∀ (j : Nat) t v, Try.f8.params[j]? = some t → args[j]? = some v → Value.okWide Try.prog W .any base t v)
    (hW : DataW.Whole enc Try.prog Try.f8.params.toList Rows.meetingProposeMatchesSpecSpec.vars false W args.toList ds gs before) :
    Calls Try.prog 8 args W fun e W' => ∃ v, e = .returned v ∧ Rows.meetingProposeMatchesSpecSpec.post enc Try.prog Try.f8 false true false false W args v W' := by
  have hW' := hW
  obtain ⟨p, q, hA, hV, _, _, _⟩ := hW
  rw [Try.params8] at hA hval
  obtain ⟨v0, vs0, d0, ds0, p0, q0, hargs, rfl, rfl, h0, r0⟩ := trodAll_cons hA
  obtain ⟨v1, vs1, d1, ds1, p1, q1, rfl, rfl, rfl, h1, r1⟩ := trodAll_cons r0
  obtain ⟨rfl, rfl, rfl⟩ := trodAll_nil r1
  obtain rfl : args = #[v0, v1] := by cases args; simp_all
  obtain ⟨o, l, r, f, t, c, m0, hl⟩ := open_meet (hval 0 40 v0 rfl rfl) h0
  obtain ⟨pf, pt, m1⟩ := open_perV (hval 1 38 v1 rfl rfl) h1
  have hc := fS_call (law_propose ⟨o, l, r, f, t, c⟩ pf pt hl)
  refine (law_calls (cargs := #[v0, v1]) hc rfl ?_).mono fun e W' ⟨he, hb⟩ => ?_
  · intro i u x hu hx
    match i with
    | 0 => simp at hu; subst hu; injection hx with hx; subst hx; exact m0
    | 1 => simp at hu; subst hu; injection hx with hx; subst hx; exact m1
    | i + 2 => simp at hu
  subst he
  exact ⟨_, rfl, law_post (tb := 4) laidA (by kernel_rfl) rfl Try.underlying4 rfl rfl hW' hb⟩

set_option maxRecDepth 100000 in
theorem proposeLaw_lifted (os : Os) (started : os.Started) (H : Type) (enc : TypeId × Value → H) :
    ReturnsInHanded {} Try.checked os 8 .any (Rows.meetingProposeMatchesSpecSpec.pre6 enc Try.prog Try.f8 Rows.meetingProposeMatchesSpecRow.domain false) (Rows.meetingProposeMatchesSpecSpec.post enc Try.prog Try.f8 false true false false) := by
  refine returnsInHanded_of_change (C := Try.checked) ownA started (by kernel_rfl) Try.func8
    (ChangeSpec.witness6 (enc := enc) (C := Try.checked) false ⟨#[], #[.agg #[.string ⟨#[]⟩, .slice none 0 0, .int .i64 0, .int .i64 0, .int .i64 0, .bool false], .agg #[.int .i64 0, .int .i64 0]], []⟩ 8 (by kernel_rfl) (by kernel_rfl) (by kernel_rfl) (by kernel_rfl)) ?_
  intro W base args ds gs before hval hW _ _
  exact proposeLaw_contract H enc W base args ds gs before hval hW

theorem proposeLaw_holds : Rows.MeetingProposeMatchesSpecSaid :=
  OpenClaim.holds_of_wide 8 Try.f8 rfl rfl rfl rfl rfl rfl rfl ⟨rfl, rfl, rfl, rfl, rfl⟩ rfl rfl rfl rfl rfl (by kernel_rfl) Try.func8 (by kernel_rfl)
    (of_decide_eq_true (by kernel_rfl)) (by unfold Func.isWrapper; first | (rw [if_pos (by decide +kernel)]; kernel_rfl) | (rw [if_neg (by decide +kernel)]; exact ⟨rfl, rfl⟩))
    (fun os started H enc _ => proposeLaw_lifted os started H enc)
end Go.Proofs.Ytgmjhnijnpfkgaa
