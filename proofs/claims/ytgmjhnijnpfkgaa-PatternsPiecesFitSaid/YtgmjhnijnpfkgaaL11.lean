/- The statement PatternsPiecesFit holds: for every argument the law returns true, and the arguments read as before. No conditions. -/
import Derived.Test.YtgmjhnijnpfkgaaP8
import Derived.Test.YtgmjhnijnpfkgaaP9
import Derived.HandedShaped
import Derived.ChangeMaps5
import Derived.Test.YtgmjhnijnpfkgaaRows
namespace Go.Proofs.Ytgmjhnijnpfkgaa
open Go.ChangeShapes Go.WideShapes Go.ChangeAt Go.ChangeMaps Go.RowKit Go.Deep

theorem law11_own : ownKnob Try.prog.godebug = none := by kernel_rfl
theorem law11_laid : laidOutB Try.prog = true := by kernel_rfl
set_option maxRecDepth 100000 in
theorem law11_contract (H : Type) (enc : TypeId × Value → H) (W : World) (base : Nat) (args : Array Value) (ds gs : List (DataW H)) (before : List MemPlace)
    (hval : ∀ (j : Nat) t v, Try.f13.params[j]? = some t → args[j]? = some v → Value.okWide Try.prog W .any base t v)
    (hW : DataW.Whole enc Try.prog Try.f13.params.toList Rows.patternsPiecesFitSpec.vars false W args.toList ds gs before) (hz : (DataW.weightsEach Try.prog (Try.f13.params.toList ++ Rows.patternsPiecesFitSpec.plain.varTypes Try.prog) (ds ++ gs)).all (· ≤ reachBytes) = true) (hsh : W.ShapedOpen Try.prog) :
    Calls Try.prog 13 args W fun e W' => ∃ v, e = .returned v ∧ Rows.patternsPiecesFitSpec.post enc Try.prog Try.f13 false true false false W args v W' := by
  have hW' := hW
  obtain ⟨p, q, hA, hV, _, _, _⟩ := hW
  rw [Try.params13] at hA hval
  obtain ⟨v0, vs0, d0, ds0, p0, q0, hargs, rfl, rfl, h0, r0⟩ := trodAll_cons hA
  obtain ⟨v1, vs1, d1, ds1, p1, q1, rfl, rfl, rfl, h1, r1⟩ := trodAll_cons r0
  obtain ⟨rfl, rfl, rfl⟩ := trodAll_nil r1
  obtain rfl : args = #[v0, v1] := by cases args; simp_all
  obtain ⟨s0, rfl, rfl, _, _⟩ := open_string Try.underlying9 (hval 0 9 v0 rfl rfl) h0
  have hl0 : s0.size ≤ 140737488351232 := by
    have h := sized_string hz (j := 0) (t := 9) (by rw [Try.params13]; rfl) rfl
    rw [Array.length_toList] at h
    exact h
  have m0 : Rep (Zw W) (fun _ _ => none) noM (.string s0) (.c (.str s0)) := .c (.str _)
  obtain ⟨s1, rfl, rfl, _, _⟩ := open_string Try.underlying9 (hval 1 9 v1 rfl rfl) h1
  have hl1 : s1.size ≤ 140737488351232 := by
    have h := sized_string hz (j := 1) (t := 9) (by rw [Try.params13]; rfl) rfl
    rw [Array.length_toList] at h
    exact h
  have m1 : Rep (Zw W) (fun _ _ => none) noM (.string s1) (.c (.str s1)) := .c (.str _)
  have hc := fS_call (law_pieces s0 s1 hl0 hl1)
  refine (law_calls (cargs := #[.string s0, .string s1]) hc (gw_shaped hsh) rfl ?_).mono fun e W' ⟨he, hb⟩ => ?_
  · intro i u x hu hx
    match i with
    | 0 => simp at hu; subst hu; injection hx with hx; subst hx; exact m0
    | 1 => simp at hu; subst hu; injection hx with hx; subst hx; exact m1
    | i + 2 => simp at hu
  subst he
  exact ⟨_, rfl, law_post (tb := 4) law11_laid (by kernel_rfl) rfl Try.underlying4 rfl rfl hW' hb⟩

set_option maxRecDepth 100000 in
theorem law11_lifted (os : Os) (started : os.Started) (H : Type) (enc : TypeId × Value → H) :
    ReturnsInHanded {} Try.checked os 13 .any (Rows.patternsPiecesFitSpec.pre6 enc Try.prog Try.f13 Rows.patternsPiecesFitRow.domain false) (Rows.patternsPiecesFitSpec.post enc Try.prog Try.f13 false true false false) := by
  refine returnsInHanded_of_change_shaped (C := Try.checked) law11_own started (by kernel_rfl) Try.func13
    (ChangeSpec.witness6 (enc := enc) (C := Try.checked) false ⟨#[], #[.string ⟨#[]⟩, .string ⟨#[]⟩], []⟩ 8 (by kernel_rfl) (by kernel_rfl) (by kernel_rfl) (by kernel_rfl)) ?_
  intro W base args ds gs before hval hW _ hz hsh _
  exact law11_contract H enc W base args ds gs before hval hW hz hsh

theorem law11_holds : Rows.PatternsPiecesFitSaid :=
  OpenClaim.holds_of_wide 13 Try.f13 rfl rfl rfl rfl rfl rfl rfl ⟨rfl, rfl, rfl, rfl, rfl⟩ rfl rfl rfl rfl rfl (by kernel_rfl) Try.func13 (by kernel_rfl)
    (of_decide_eq_true (by kernel_rfl)) (by unfold Func.isWrapper; first | (rw [if_pos (by decide +kernel)]; kernel_rfl) | (rw [if_neg (by decide +kernel)]; exact ⟨rfl, rfl⟩))
    (fun os started H enc _ => law11_lifted os started H enc)
end Go.Proofs.Ytgmjhnijnpfkgaa
