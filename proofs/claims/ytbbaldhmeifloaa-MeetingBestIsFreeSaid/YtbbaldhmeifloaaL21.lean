/- The statement MeetingBestIsFree holds: for every argument the law returns true, and the arguments read as before. No conditions. -/
import Derived.Test.YtbbaldhmeifloaaT6
import Derived.Test.YtbbaldhmeifloaaY10
import Derived.HandedShaped
import Derived.ChangeMaps5
import Derived.Test.YtbbaldhmeifloaaRows
namespace Go.Proofs.Ytbbaldhmeifloaa
open Go.ChangeShapes Go.WideShapes Go.ChangeAt Go.ChangeMaps Go.RowKit Go.Deep

theorem law21_own : ownKnob Try.prog.godebug = none := by kernel_rfl
theorem law21_laid : laidOutB Try.prog = true := by kernel_rfl
set_option maxRecDepth 100000 in
theorem law21_contract (H : Type) (enc : TypeId × Value → H) (W : World) (base : Nat) (args : Array Value) (ds gs : List (DataW H)) (before : List MemPlace)
    (hval : ∀ (j : Nat) t v, Try.f10.params[j]? = some t → args[j]? = some v → Value.okWide Try.prog W .any base t v)
    (hW : DataW.Whole enc Try.prog Try.f10.params.toList Rows.meetingBestIsFreeSpec.vars false W args.toList ds gs before) (hz : (DataW.weightsEach Try.prog (Try.f10.params.toList ++ Rows.meetingBestIsFreeSpec.plain.varTypes Try.prog) (ds ++ gs)).all (· ≤ reachBytes) = true) (hsh : W.ShapedOpen Try.prog) :
    Calls Try.prog 10 args W fun e W' => ∃ v, e = .returned v ∧ Rows.meetingBestIsFreeSpec.post enc Try.prog Try.f10 false true false false W args v W' := by
  have hW' := hW
  obtain ⟨p, q, hA, hV, _, _, _⟩ := hW
  rw [Try.params10] at hA hval
  obtain ⟨v0, vs0, d0, ds0, p0, q0, hargs, rfl, rfl, h0, r0⟩ := trodAll_cons hA
  obtain ⟨v1, vs1, d1, ds1, p1, q1, rfl, rfl, rfl, h1, r1⟩ := trodAll_cons r0
  obtain ⟨v2, vs2, d2, ds2, p2, q2, rfl, rfl, rfl, h2, r2⟩ := trodAll_cons r1
  obtain ⟨v3, vs3, d3, ds3, p3, q3, rfl, rfl, rfl, h3, r3⟩ := trodAll_cons r2
  obtain ⟨rfl, rfl, rfl⟩ := trodAll_nil r3
  obtain rfl : args = #[v0, v1, v2, v3] := by cases args; simp_all
  have hzw : ∀ x ∈ DataW.weights Try.prog 60 d0, x ≤ reachBytes := fun x hx => of_decide_eq_true (List.all_eq_true.1 hz x (DataW.weights_mem_each (j := 0) (t := 60) (by rw [Try.params10]; rfl) rfl x hx))
  obtain ⟨l0, rc0, hl0, hb0⟩ := open_perss (okWide_slice Try.underlying60 (hval 0 60 v0 rfl rfl)) h0 hzw
  have m0 : Rep (Zw W) (fun _ _ => none) noM v0 (.c (.sl (ec_45.encL l0))) := .c rc0
  obtain ⟨n1, rfl, _, _, _⟩ := open_int Try.underlying3 (hval 1 3 v1 rfl rfl) h1
  have m1 : Rep (Zw W) (fun _ _ => none) noM (.int .i64 n1) (.c (.int .i64 n1)) := .c (.int _ _)
  obtain ⟨n2, rfl, _, _, _⟩ := open_int Try.underlying3 (hval 2 3 v2 rfl rfl) h2
  have m2 : Rep (Zw W) (fun _ _ => none) noM (.int .i64 n2) (.c (.int .i64 n2)) := .c (.int _ _)
  obtain ⟨n3, rfl, _, _, _⟩ := open_int Try.underlying3 (hval 3 3 v3 rfl rfl) h3
  have m3 : Rep (Zw W) (fun _ _ => none) noM (.int .i64 n3) (.c (.int .i64 n3)) := .c (.int _ _)
  have hc := fS_call (law_bestfree2 l0 n1 n2 n3 hl0 hb0)
  refine (law_calls2 (cargs := #[v0, .int .i64 n1, .int .i64 n2, .int .i64 n3]) hc trivial rfl ?_).mono fun e W' ⟨he, hb⟩ => ?_
  · intro i u x hu hx
    match i with
    | 0 => simp at hu; subst hu; injection hx with hx; subst hx; exact m0
    | 1 => simp at hu; subst hu; injection hx with hx; subst hx; exact m1
    | 2 => simp at hu; subst hu; injection hx with hx; subst hx; exact m2
    | 3 => simp at hu; subst hu; injection hx with hx; subst hx; exact m3
    | i + 4 => simp at hu
  subst he
  exact ⟨_, rfl, law_post (tb := 4) law21_laid (by kernel_rfl) rfl Try.underlying4 rfl rfl hW' hb⟩

set_option maxRecDepth 100000 in
theorem law21_lifted (os : Os) (started : os.Started) (H : Type) (enc : TypeId × Value → H) :
    ReturnsInHanded {} Try.checked os 10 .any (Rows.meetingBestIsFreeSpec.pre6 enc Try.prog Try.f10 Rows.meetingBestIsFreeRow.domain false) (Rows.meetingBestIsFreeSpec.post enc Try.prog Try.f10 false true false false) := by
  refine returnsInHanded_of_change_shaped (C := Try.checked) law21_own started (by kernel_rfl) Try.func10
    (ChangeSpec.witness6 (enc := enc) (C := Try.checked) false ⟨#[], #[.slice none 0 0, .int .i64 0, .int .i64 0, .int .i64 0], []⟩ 8 (by kernel_rfl) (by kernel_rfl) (by kernel_rfl) (by kernel_rfl)) ?_
  intro W base args ds gs before hval hW _ hz hsh _
  exact law21_contract H enc W base args ds gs before hval hW hz hsh

theorem law21_holds : Rows.MeetingBestIsFreeSaid :=
  OpenClaim.holds_of_wide 10 Try.f10 rfl rfl rfl rfl rfl rfl rfl ⟨rfl, rfl, rfl, rfl, rfl⟩ rfl rfl rfl rfl rfl (by kernel_rfl) Try.func10 (by kernel_rfl)
    (of_decide_eq_true (by kernel_rfl)) (by unfold Func.isWrapper; first | (rw [if_pos (by decide +kernel)]; kernel_rfl) | (rw [if_neg (by decide +kernel)]; exact ⟨rfl, rfl⟩))
    (fun os started H enc _ => law21_lifted os started H enc)
end Go.Proofs.Ytbbaldhmeifloaa
