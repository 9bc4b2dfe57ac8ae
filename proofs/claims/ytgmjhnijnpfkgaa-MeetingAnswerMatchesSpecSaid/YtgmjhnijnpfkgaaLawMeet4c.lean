/- For every meeting, text, number and period, MeetingAnswerMatchesSpec returns true and leaves its arguments alone. -/
import Derived.Test.YtgmjhnijnpfkgaaLawMeet4b
import Derived.Test.YtgmjhnijnpfkgaaOpenMeet
namespace Go.Proofs.Ytgmjhnijnpfkgaa
open Go.ChangeShapes Go.WideShapes Go.ChangeAt Go.RowKit Go.Deep
open Go.ChangeMaps (open_string)

theorem answerLaw (m : Mtg) (who : ByteArray) (ans f t : Int) (A : Option Addr) (n c : Nat) (w : World) (h : Rd w 4 A n c (m.guests.flatMap Guest.cells)) :
    Calls Try.prog 6 #[.agg (mval m A n c), .string who, .int .i64 ans, .agg #[.int .i64 f, .int .i64 t]] w fun e w' => e = .returned (.bool true) ∧ Bel w w' := by
  by_cases z : (mtgFault m).1 = 0
  · have hz := mtg_zero z
    have hok := mtg_ok (m := m) (fi := 0) hz
    have hag : agRes m = (agreedOf m, 0, 0) := by unfold agRes; rw [if_pos z]
    have han : answerOf m who ans f t = if m.can = true ∨ m.round = 0 then (Mtg.zero, 8, -4) else if gpos m who < 0 then (Mtg.zero, 6, -5) else if ans < 1 ∨ 3 < ans then (Mtg.zero, 3, -6) else if ans = 3 ∧ possB f t = false then (Mtg.zero, 3, -7) else (m.answered (gpos m who).toNat ans f t, 0, 0) := by unfold answerOf; rw [if_neg (by simpa using z)]
    have hcnt := h.count (fun _ => rfl) (by decide)
    by_cases kr : 0 < m.round
    · have kr' : decide (0 < m.round) = true := by simpa using kr
      have kz' : (m.round == 0) = false := by simp; omega
      cases kc : m.can with
      | true => exact ansB1 m who ans f t A n c w h (by rw [han, if_pos (.inl kc)]) hag hz kc kr' kz' _ rfl
      | false =>
        have e1 : ¬ (m.can = true ∨ m.round = 0) := by rw [kc]; simp; omega
        rw [if_neg e1] at han
        rcases gidx_lo (fun x => x.addr.toList == who.toList) m.guests 0 with h1 | ⟨k, g, h1, h2, hp⟩
        · have hneg : gpos m who = -1 := h1
          exact ansB4 m who ans f t A n c w h (by rw [han, if_pos (by rw [hneg]; decide)]) hag hz kc kr' kz' _ rfl (by rw [hneg]; decide)
        · have hk : gpos m who = (k : Int) := by unfold gpos; rw [h1]; congr 1; omega
          have hpos : ¬ gpos m who < 0 := by rw [hk]; omega
          rw [if_neg hpos] at han
          by_cases hin : 1 ≤ ans ∧ ans ≤ 3
          · rw [if_neg (by omega)] at han
            have hwho : who = g.addr := (bytes_inj (by simpa using hp)).symm
            by_cases h3 : ans = 3
            · cases hps : possB f t with
              | false => exact ansB6 m who ans f t A n c w h (by rw [han, if_pos ⟨h3, hps⟩]) hag hz kc kr' kz' _ rfl (by omega) h3 hps
              | true => exact ansC3 m who ans f t k A n c w h (by rw [han, if_neg (by rintro ⟨_, h'⟩; rw [hps] at h'; cases h'), hk, Int.toNat_natCast]) hag hz kc kr' kz' _ rfl g hk h2 hwho (by omega) h3 hps
            · exact ansC1 m who ans f t k A n c w h (by rw [han, if_neg (by rintro ⟨h', _⟩; exact h3 h'), hk, Int.toNat_natCast]) hag hz kc kr' kz' _ rfl g hk h2 hwho (by omega) h3 hin
          · exact ansB5 m who ans f t A n c w h (by rw [han, if_pos (by omega)]) hag hz kc kr' kz' _ rfl (by omega) hin
    · have kr' : decide (0 < m.round) = false := by simpa using kr
      have k0 : m.round = 0 := by omega
      have kz' : (m.round == 0) = true := by simp [k0]
      cases kc : m.can with
      | true => exact ansB2 m who ans f t A n c w h (by rw [han, if_pos (.inl kc)]) hag hz kc kr' kz' _ rfl
      | false => exact ansB3 m who ans f t A n c w h (by rw [han, if_pos (.inr k0)]) hag hz kc kr' kz' _ rfl
  · obtain ⟨fc, fi, hF⟩ : ∃ fc fi, mtgFault m = (fc, fi) := ⟨_, _, rfl⟩
    exact ansA m who ans f t fc fi A n c w h (by unfold answerOf; rw [if_pos z, hF]) (by unfold agRes; rw [if_neg z, hF]) hF (by rw [hF] at z; exact z)

set_option maxRecDepth 100000 in
theorem open_perV {H : Type} {enc : TypeId × Value → H} {w : World} {base : Nat} {r : Reach} {v : Value} {d : DataW H} {p : List MemPlace} (hv : Value.okWide Try.prog w r base 38 v) (h : DataW.Trod enc Try.prog w 0 (fun _ => true) true 38 v d p) :
    ∃ f t, v = .agg #[.int .i64 f, .int .i64 t] := by
  obtain ⟨cs, rfl, hsz⟩ := okWide_struct Try.underlying38 hv
  obtain ⟨fuel, h⟩ := h
  obtain ⟨f, t, e⟩ := open_per h
  obtain ⟨l⟩ := cs
  simp [Value.cells] at e
  exact ⟨f, t, by rw [e]⟩

set_option maxRecDepth 100000 in
theorem answerLaw_contract (H : Type) (enc : TypeId × Value → H) (W : World) (base : Nat) (args : Array Value) (ds gs : List (DataW H)) (before : List MemPlace)
    (hval : ∀ (j : Nat) t v, Try.f6.params[j]? = some t → args[j]? = some v → Value.okWide Try.prog W .any base t v)
    (hW : DataW.Whole enc Try.prog Try.f6.params.toList Rows.meetingAnswerMatchesSpecSpec.vars false W args.toList ds gs before) :
    Calls Try.prog 6 args W fun e W' => ∃ v, e = .returned v ∧ Rows.meetingAnswerMatchesSpecSpec.post enc Try.prog Try.f6 false true false false W args v W' := by
  have hW' := hW
  obtain ⟨p, q, hA, hV, _, _, _⟩ := hW
  rw [Try.params6] at hA hval
  obtain ⟨v0, vs0, d0, ds0, p0, q0, hargs, rfl, rfl, h0, r0⟩ := trodAll_cons hA
  obtain ⟨v1, vs1, d1, ds1, p1, q1, rfl, rfl, rfl, h1, r1⟩ := trodAll_cons r0
  obtain ⟨v2, vs2, d2, ds2, p2, q2, rfl, rfl, rfl, h2, r2⟩ := trodAll_cons r1
  obtain ⟨v3, vs3, d3, ds3, p3, q3, rfl, rfl, rfl, h3, r3⟩ := trodAll_cons r2
  obtain ⟨rfl, rfl, rfl⟩ := trodAll_nil r3
  obtain rfl : args = #[v0, v1, v2, v3] := by cases args; simp_all
  obtain ⟨m, A, n, c, rfl, hrd⟩ := open_meet (hval 0 40 v0 rfl rfl) h0
  obtain ⟨who, rfl, _, _⟩ := open_string Try.underlying9 (hval 1 9 v1 rfl rfl) h1
  obtain ⟨ans, rfl, _, _, _⟩ := open_int Try.underlying3 (hval 2 3 v2 rfl rfl) h2
  obtain ⟨f, t, rfl⟩ := open_perV (hval 3 38 v3 rfl rfl) h3
  refine (answerLaw m who ans f t A n c W hrd).mono fun e W' ⟨he, hb⟩ => ?_
  subst he
  exact ⟨_, rfl, law_post (tb := 4) Try_laid (by kernel_rfl) rfl Try.underlying4 rfl rfl hW' hb⟩

set_option maxRecDepth 100000 in
theorem answerLaw_lifted (os : Os) (started : os.Started) (H : Type) (enc : TypeId × Value → H) :
    ReturnsInHanded {} Try.checked os 6 .any (Rows.meetingAnswerMatchesSpecSpec.pre6 enc Try.prog Try.f6 Rows.meetingAnswerMatchesSpecRow.domain false) (Rows.meetingAnswerMatchesSpecSpec.post enc Try.prog Try.f6 false true false false) := by
  refine returnsInHanded_of_change (C := Try.checked) Try_own started (by kernel_rfl) Try.func6
    (ChangeSpec.witness6 (enc := enc) (C := Try.checked) false ⟨#[], #[.agg #[.string ⟨#[]⟩, .slice none 0 0, .int .i64 0, .int .i64 0, .int .i64 0, .bool false], .string ⟨#[]⟩, .int .i64 0, .agg #[.int .i64 0, .int .i64 0]], []⟩ 8 (by kernel_rfl) (by kernel_rfl) (by kernel_rfl) (by kernel_rfl)) ?_
  intro W base args ds gs before hval hW _ _
  exact answerLaw_contract H enc W base args ds gs before hval hW

theorem answerLaw_holds : Rows.MeetingAnswerMatchesSpecSaid :=
  OpenClaim.holds_of_wide 6 Try.f6 rfl rfl rfl rfl rfl rfl rfl ⟨rfl, rfl, rfl, rfl, rfl⟩ rfl rfl rfl rfl rfl (by kernel_rfl) Try.func6 (by kernel_rfl)
    (of_decide_eq_true (by kernel_rfl)) (by unfold Func.isWrapper; first | (rw [if_pos (by decide +kernel)]; kernel_rfl) | (rw [if_neg (by decide +kernel)]; exact ⟨rfl, rfl⟩))
    (fun os started H enc _ => answerLaw_lifted os started H enc)
end Go.Proofs.Ytgmjhnijnpfkgaa
