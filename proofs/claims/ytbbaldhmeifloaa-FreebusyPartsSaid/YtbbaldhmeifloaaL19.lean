/- The statement FreebusyParts holds: for every argument the law returns true, and the arguments read as before. No conditions. -/
import Derived.Test.YtbbaldhmeifloaaV5
import Derived.Test.YtbbaldhmeifloaaY9
import Derived.HandedShaped
import Derived.ChangeMaps5
import Derived.Test.YtbbaldhmeifloaaRows
namespace Go.Proofs.Ytbbaldhmeifloaa
open Go.ChangeShapes Go.WideShapes Go.ChangeAt Go.ChangeMaps Go.RowKit Go.Deep

theorem law19_own : ownKnob Try.prog.godebug = none := by kernel_rfl
theorem law19_laid : laidOutB Try.prog = true := by kernel_rfl
set_option maxRecDepth 100000 in
theorem law19_contract (H : Type) (enc : TypeId × Value → H) (W : World) (base : Nat) (args : Array Value) (ds gs : List (DataW H)) (before : List MemPlace)
    (hval : ∀ (j : Nat) t v, Try.f8.params[j]? = some t → args[j]? = some v → Value.okWide Try.prog W .any base t v)
    (hW : DataW.Whole enc Try.prog Try.f8.params.toList Rows.freebusyPartsSpec.vars false W args.toList ds gs before) (hz : (DataW.weightsEach Try.prog (Try.f8.params.toList ++ Rows.freebusyPartsSpec.plain.varTypes Try.prog) (ds ++ gs)).all (· ≤ reachBytes) = true) (hsh : W.ShapedOpen Try.prog) :
    Calls Try.prog 8 args W fun e W' => ∃ v, e = .returned v ∧ Rows.freebusyPartsSpec.post enc Try.prog Try.f8 false true false false W args v W' := by
  have hW' := hW
  obtain ⟨p, q, hA, hV, _, _, _⟩ := hW
  rw [Try.params8] at hA hval
  obtain ⟨v0, vs0, d0, ds0, p0, q0, hargs, rfl, rfl, h0, r0⟩ := trodAll_cons hA
  obtain ⟨v1, vs1, d1, ds1, p1, q1, rfl, rfl, rfl, h1, r1⟩ := trodAll_cons r0
  obtain ⟨v2, vs2, d2, ds2, p2, q2, rfl, rfl, rfl, h2, r2⟩ := trodAll_cons r1
  obtain ⟨rfl, rfl, rfl⟩ := trodAll_nil r2
  obtain rfl : args = #[v0, v1, v2] := by cases args; simp_all
  obtain ⟨l0, rc0, hl0⟩ := open_pers (okWide_slice Try.underlying45 (hval 0 45 v0 rfl rfl)) h0
  have m0 : Rep (Zw W) (fun _ _ => none) noM v0 (.c (.sl (ec_58.encL l0))) := .c rc0
  obtain ⟨n1, rfl, _, _, _⟩ := open_int Try.underlying3 (hval 1 3 v1 rfl rfl) h1
  have m1 : Rep (Zw W) (fun _ _ => none) noM (.int .i64 n1) (.c (.int .i64 n1)) := .c (.int _ _)
  obtain ⟨n2, rfl, _, _, _⟩ := open_int Try.underlying3 (hval 2 3 v2 rfl rfl) h2
  have m2 : Rep (Zw W) (fun _ _ => none) noM (.int .i64 n2) (.c (.int .i64 n2)) := .c (.int _ _)
  have hc := fS_call (law_parts l0 n1 n2 hl0)
  refine (law_calls (cargs := #[v0, .int .i64 n1, .int .i64 n2]) hc trivial rfl ?_).mono fun e W' ⟨he, hb⟩ => ?_
  · intro i u x hu hx
    match i with
    | 0 => simp at hu; subst hu; injection hx with hx; subst hx; exact m0
    | 1 => simp at hu; subst hu; injection hx with hx; subst hx; exact m1
    | 2 => simp at hu; subst hu; injection hx with hx; subst hx; exact m2
    | i + 3 => simp at hu
  subst he
  exact ⟨_, rfl, law_post (tb := 4) law19_laid (by kernel_rfl) rfl Try.underlying4 rfl rfl hW' hb⟩

set_option maxRecDepth 100000 in
theorem law19_lifted (os : Os) (started : os.Started) (H : Type) (enc : TypeId × Value → H) :
    ReturnsInHanded {} Try.checked os 8 .any (Rows.freebusyPartsSpec.pre6 enc Try.prog Try.f8 Rows.freebusyPartsRow.domain false) (Rows.freebusyPartsSpec.post enc Try.prog Try.f8 false true false false) := by
  refine returnsInHanded_of_change_shaped (C := Try.checked) law19_own started (by kernel_rfl) Try.func8
    (ChangeSpec.witness6 (enc := enc) (C := Try.checked) false ⟨#[], #[.slice none 0 0, .int .i64 0, .int .i64 0], []⟩ 8 (by kernel_rfl) (by kernel_rfl) (by kernel_rfl) (by kernel_rfl)) ?_
  intro W base args ds gs before hval hW _ hz hsh _
  exact law19_contract H enc W base args ds gs before hval hW hz hsh

theorem law19_holds : Rows.FreebusyPartsSaid :=
  OpenClaim.holds_of_wide 8 Try.f8 rfl rfl rfl rfl rfl rfl rfl ⟨rfl, rfl, rfl, rfl, rfl⟩ rfl rfl rfl rfl rfl (by kernel_rfl) Try.func8 (by kernel_rfl)
    (of_decide_eq_true (by kernel_rfl)) (by unfold Func.isWrapper; first | (rw [if_pos (by decide +kernel)]; kernel_rfl) | (rw [if_neg (by decide +kernel)]; exact ⟨rfl, rfl⟩))
    (fun os started H enc _ => law19_lifted os started H enc)
end Go.Proofs.Ytbbaldhmeifloaa
