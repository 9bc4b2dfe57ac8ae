/- The statement FreebusyMergeIsStable holds: for every argument the law returns true, and the arguments read as before. No conditions. -/
import Derived.Test.YtbbaldhmeifloaaV5
import Derived.Test.YtbbaldhmeifloaaY9
import Derived.HandedShaped
import Derived.ChangeMaps5
import Derived.Test.YtbbaldhmeifloaaRows
namespace Go.Proofs.Ytbbaldhmeifloaa
open Go.ChangeShapes Go.WideShapes Go.ChangeAt Go.ChangeMaps Go.RowKit Go.Deep

theorem law18_own : ownKnob Try.prog.godebug = none := by kernel_rfl
theorem law18_laid : laidOutB Try.prog = true := by kernel_rfl
set_option maxRecDepth 100000 in
theorem law18_contract (H : Type) (enc : TypeId × Value → H) (W : World) (base : Nat) (args : Array Value) (ds gs : List (DataW H)) (before : List MemPlace)
    (hval : ∀ (j : Nat) t v, Try.f7.params[j]? = some t → args[j]? = some v → Value.okWide Try.prog W .any base t v)
    (hW : DataW.Whole enc Try.prog Try.f7.params.toList Rows.freebusyMergeIsStableSpec.vars false W args.toList ds gs before) (hz : (DataW.weightsEach Try.prog (Try.f7.params.toList ++ Rows.freebusyMergeIsStableSpec.plain.varTypes Try.prog) (ds ++ gs)).all (· ≤ reachBytes) = true) (hsh : W.ShapedOpen Try.prog) :
    Calls Try.prog 7 args W fun e W' => ∃ v, e = .returned v ∧ Rows.freebusyMergeIsStableSpec.post enc Try.prog Try.f7 false true false false W args v W' := by
  have hW' := hW
  obtain ⟨p, q, hA, hV, _, _, _⟩ := hW
  rw [Try.params7] at hA hval
  obtain ⟨v0, vs0, d0, ds0, p0, q0, hargs, rfl, rfl, h0, r0⟩ := trodAll_cons hA
  obtain ⟨rfl, rfl, rfl⟩ := trodAll_nil r0
  obtain rfl : args = #[v0] := by cases args; simp_all
  obtain ⟨l0, rc0, hl0⟩ := open_pers (okWide_slice Try.underlying45 (hval 0 45 v0 rfl rfl)) h0
  have m0 : Rep (Zw W) (fun _ _ => none) noM v0 (.c (.sl (ec_58.encL l0))) := .c rc0
  have hc := fS_call (law_stable l0 hl0)
  refine (law_calls (cargs := #[v0]) hc trivial rfl ?_).mono fun e W' ⟨he, hb⟩ => ?_
  · intro i u x hu hx
    match i with
    | 0 => simp at hu; subst hu; injection hx with hx; subst hx; exact m0
    | i + 1 => simp at hu
  subst he
  exact ⟨_, rfl, law_post (tb := 4) law18_laid (by kernel_rfl) rfl Try.underlying4 rfl rfl hW' hb⟩

set_option maxRecDepth 100000 in
theorem law18_lifted (os : Os) (started : os.Started) (H : Type) (enc : TypeId × Value → H) :
    ReturnsInHanded {} Try.checked os 7 .any (Rows.freebusyMergeIsStableSpec.pre6 enc Try.prog Try.f7 Rows.freebusyMergeIsStableRow.domain false) (Rows.freebusyMergeIsStableSpec.post enc Try.prog Try.f7 false true false false) := by
  refine returnsInHanded_of_change_shaped (C := Try.checked) law18_own started (by kernel_rfl) Try.func7
    (ChangeSpec.witness6 (enc := enc) (C := Try.checked) false ⟨#[], #[.slice none 0 0], []⟩ 8 (by kernel_rfl) (by kernel_rfl) (by kernel_rfl) (by kernel_rfl)) ?_
  intro W base args ds gs before hval hW _ hz hsh _
  exact law18_contract H enc W base args ds gs before hval hW hz hsh

theorem law18_holds : Rows.FreebusyMergeIsStableSaid :=
  OpenClaim.holds_of_wide 7 Try.f7 rfl rfl rfl rfl rfl rfl rfl ⟨rfl, rfl, rfl, rfl, rfl⟩ rfl rfl rfl rfl rfl (by kernel_rfl) Try.func7 (by kernel_rfl)
    (of_decide_eq_true (by kernel_rfl)) (by unfold Func.isWrapper; first | (rw [if_pos (by decide +kernel)]; kernel_rfl) | (rw [if_neg (by decide +kernel)]; exact ⟨rfl, rfl⟩))
    (fun os started H enc _ => law18_lifted os started H enc)
end Go.Proofs.Ytbbaldhmeifloaa
