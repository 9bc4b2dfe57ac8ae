/- The statement PatternsIgnoreCase holds: for every argument the law returns true, and the arguments read as before. No conditions. -/
import Derived.Test.YtgmjhnijnpfkgaaP6
import Derived.Test.YtgmjhnijnpfkgaaP9
import Derived.HandedShaped
import Derived.ChangeMaps5
import Derived.Test.YtgmjhnijnpfkgaaRows
namespace Go.Proofs.Ytgmjhnijnpfkgaa
open Go.ChangeShapes Go.WideShapes Go.ChangeAt Go.ChangeMaps Go.RowKit Go.Deep

theorem law9_own : ownKnob Try.prog.godebug = none := by kernel_rfl
theorem law9_laid : laidOutB Try.prog = true := by kernel_rfl
set_option maxRecDepth 100000 in
theorem law9_contract (H : Type) (enc : TypeId × Value → H) (W : World) (base : Nat) (args : Array Value) (ds gs : List (DataW H)) (before : List MemPlace)
    (hval : ∀ (j : Nat) t v, Try.f11.params[j]? = some t → args[j]? = some v → Value.okWide Try.prog W .any base t v)
    (hW : DataW.Whole enc Try.prog Try.f11.params.toList Rows.patternsIgnoreCaseSpec.vars false W args.toList ds gs before) (hz : (DataW.weightsEach Try.prog (Try.f11.params.toList ++ Rows.patternsIgnoreCaseSpec.plain.varTypes Try.prog) (ds ++ gs)).all (· ≤ reachBytes) = true) (hsh : W.ShapedOpen Try.prog) :
    Calls Try.prog 11 args W fun e W' => ∃ v, e = .returned v ∧ Rows.patternsIgnoreCaseSpec.post enc Try.prog Try.f11 false true false false W args v W' := by
  have hW' := hW
  obtain ⟨p, q, hA, hV, _, _, _⟩ := hW
  rw [Try.params11] at hA hval
  obtain ⟨v0, vs0, d0, ds0, p0, q0, hargs, rfl, rfl, h0, r0⟩ := trodAll_cons hA
  obtain ⟨v1, vs1, d1, ds1, p1, q1, rfl, rfl, rfl, h1, r1⟩ := trodAll_cons r0
  obtain ⟨v2, vs2, d2, ds2, p2, q2, rfl, rfl, rfl, h2, r2⟩ := trodAll_cons r1
  obtain ⟨rfl, rfl, rfl⟩ := trodAll_nil r2
  obtain rfl : args = #[v0, v1, v2] := by cases args; simp_all
  obtain ⟨n0, rfl, _, _, _⟩ := open_int Try.underlying3 (hval 0 3 v0 rfl rfl) h0
  have m0 : Rep (Zw W) (fun _ _ => none) noM (.int .i64 n0) (.c (.int .i64 n0)) := .c (.int _ _)
  obtain ⟨s1, rfl, rfl, _, _⟩ := open_string Try.underlying9 (hval 1 9 v1 rfl rfl) h1
  have hl1 : s1.size ≤ 140737488351232 := by
    have h := sized_string hz (j := 1) (t := 9) (by rw [Try.params11]; rfl) rfl
    rw [Array.length_toList] at h
    exact h
  have m1 : Rep (Zw W) (fun _ _ => none) noM (.string s1) (.c (.str s1)) := .c (.str _)
  obtain ⟨s2, rfl, rfl, _, _⟩ := open_string Try.underlying9 (hval 2 9 v2 rfl rfl) h2
  have hl2 : s2.size ≤ 140737488351232 := by
    have h := sized_string hz (j := 2) (t := 9) (by rw [Try.params11]; rfl) rfl
    rw [Array.length_toList] at h
    exact h
  have m2 : Rep (Zw W) (fun _ _ => none) noM (.string s2) (.c (.str s2)) := .c (.str _)
  have hc := fS_call (law_ignore n0 s1 s2 hl1 hl2)
  refine (law_calls (cargs := #[.int .i64 n0, .string s1, .string s2]) hc (gw_shaped hsh) rfl ?_).mono fun e W' ⟨he, hb⟩ => ?_
  · intro i u x hu hx
    match i with
    | 0 => simp at hu; subst hu; injection hx with hx; subst hx; exact m0
    | 1 => simp at hu; subst hu; injection hx with hx; subst hx; exact m1
    | 2 => simp at hu; subst hu; injection hx with hx; subst hx; exact m2
    | i + 3 => simp at hu
  subst he
  exact ⟨_, rfl, law_post (tb := 4) law9_laid (by kernel_rfl) rfl Try.underlying4 rfl rfl hW' hb⟩

set_option maxRecDepth 100000 in
theorem law9_lifted (os : Os) (started : os.Started) (H : Type) (enc : TypeId × Value → H) :
    ReturnsInHanded {} Try.checked os 11 .any (Rows.patternsIgnoreCaseSpec.pre6 enc Try.prog Try.f11 Rows.patternsIgnoreCaseRow.domain false) (Rows.patternsIgnoreCaseSpec.post enc Try.prog Try.f11 false true false false) := by
  refine returnsInHanded_of_change_shaped (C := Try.checked) law9_own started (by kernel_rfl) Try.func11
    (ChangeSpec.witness6 (enc := enc) (C := Try.checked) false ⟨#[], #[.int .i64 0, .string ⟨#[]⟩, .string ⟨#[]⟩], []⟩ 8 (by kernel_rfl) (by kernel_rfl) (by kernel_rfl) (by kernel_rfl)) ?_
  intro W base args ds gs before hval hW _ hz hsh _
  exact law9_contract H enc W base args ds gs before hval hW hz hsh

theorem law9_holds : Rows.PatternsIgnoreCaseSaid :=
  OpenClaim.holds_of_wide 11 Try.f11 rfl rfl rfl rfl rfl rfl rfl ⟨rfl, rfl, rfl, rfl, rfl⟩ rfl rfl rfl rfl rfl (by kernel_rfl) Try.func11 (by kernel_rfl)
    (of_decide_eq_true (by kernel_rfl)) (by unfold Func.isWrapper; first | (rw [if_pos (by decide +kernel)]; kernel_rfl) | (rw [if_neg (by decide +kernel)]; exact ⟨rfl, rfl⟩))
    (fun os started H enc _ => law9_lifted os started H enc)
end Go.Proofs.Ytgmjhnijnpfkgaa
