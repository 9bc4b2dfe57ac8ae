/- Statement 45: the row and its card: for every input (no condition on sizes). -/
import Derived.Test.YtomnbknaanlmaaaGreatDoorZ16
import Derived.Test.YtomnbknaanlmaaaGreatDoorZ19
import Derived.Test.YtomnbknaanlmaaaGreatDoorR4
import Derived.Test.YtomnbknaanlmaaaGreatDoorRT5
import Derived.Deep.DeepWitnessRowRef
import Derived.Test.YtomnbknaanlmaaaGreatDoorTie
import Derived.Test.YtomnbknaanlmaaaGreatDoorCards
namespace Go.Proofs.YtomnbknaanlmaaaGreatDoor
open Go.ChangeShapes Go.WideShapes Go.ChangeAt Go.ChangeMaps Go.RowKit Go.Deep
set_option maxRecDepth 100000 in
theorem law45_contract (H : Type) (enc : TypeId × Value → H) (W : World) (base : Nat) (args : Array Value) (ds gs : List (DataW H)) (before : List MemPlace)
    (hval : ∀ (j : Nat) t v, Tryz.f3.params[j]? = some t → args[j]? = some v → Value.okWide Tryz.prog W .any base t v)
    (hW : DataW.Whole enc Tryz.prog Tryz.f3.params.toList Rows.topForgottenMessagesDoNotCountSpec.vars false W args.toList ds gs before) (hG : GW W) :
    Calls Tryz.prog 3 args W fun e W' => ∃ v, e = .returned v ∧ Rows.topForgottenMessagesDoNotCountSpec.post enc Tryz.prog Tryz.f3 false true false false W args v W' := by
  have hW' := hW
  obtain ⟨p, q, hA, hV, _, _, _⟩ := hW
  obtain ⟨rfl, rfl⟩ := trodVars_none hV
  rw [Tryz.params3] at hA hval
  obtain ⟨v0, w0, d0, k0, p0, q0, g0, rfl, rfl, h0, t0⟩ := trodAll_cons hA
  obtain ⟨v1, w1, d1, k1, p1, q1, g1, rfl, rfl, h1, t1⟩ := trodAll_cons t0
  obtain ⟨v2, w2, d2, k2, p2, q2, g2, rfl, rfl, h2, t2⟩ := trodAll_cons t1
  obtain ⟨v3, w3, d3, k3, p3, q3, g3, rfl, rfl, h3, t3⟩ := trodAll_cons t2
  obtain ⟨v4, w4, d4, k4, p4, q4, g4, rfl, rfl, h4, t4⟩ := trodAll_cons t3
  obtain ⟨v5, w5, d5, k5, p5, q5, g5, rfl, rfl, h5, t5⟩ := trodAll_cons t4
  obtain ⟨rfl, rfl, rfl⟩ := trodAll_nil t5
  subst g5
  subst g4
  subst g3
  subst g2
  subst g1
  obtain rfl : args = #[v0, v1, v2, v3, v4, v5] := by cases args; simp_all
  obtain ⟨G, J, T, r0⟩ := open_words (okWide_struct Tryz.underlying24 (hval 0 24 v0 rfl rfl)) h0
  obtain ⟨a, rfl⟩ := open_str0 (okWide_string Tryz.underlying9 (hval 1 9 v1 rfl rfl)) h1
  obtain ⟨b, rfl⟩ := open_str0 (okWide_string Tryz.underlying9 (hval 2 9 v2 rfl rfl)) h2
  obtain ⟨x, rfl⟩ := okWide_bool Tryz.underlying4 (hval 3 4 v3 rfl rfl)
  obtain ⟨y, rfl⟩ := okWide_bool Tryz.underlying4 (hval 4 4 v4 rfl rfl)
  obtain ⟨t, rfl⟩ := open_str0 (okWide_string Tryz.underlying9 (hval 5 9 v5 rfl rfl)) h5
  have hc := fS_call (law45 G J T a b x y t)
  obtain ⟨hsz, hrep⟩ := RepA.get (us := [v0, .string a, .string b, .bool x, .bool y, .string t]) (xs := _) (W := W) (show RepA W _ [_, _, _, _, _, _] from ⟨r0, .c (.str _), .c (.str _), .c (.bool _), .c (.bool _), .c (.str _), trivial⟩)
  refine (lawR_calls (cargs := #[v0, .string a, .string b, .bool x, .bool y, .string t]) hc hG rfl ?_).mono fun e W' ⟨he, hb⟩ => ?_
  · intro i u x hu hx
    exact hrep i u x (by simpa using hu) hx
  subst he
  exact ⟨_, rfl, law_post (tb := 4) Try_laid (by kernel_rfl) rfl Tryz.underlying4 rfl rfl hW' hb⟩
abbrev wit : Array Value := #[.agg #[.int .i64 0, .int .i64 0, .slice none 0 0], .string ⟨#[]⟩, .string ⟨#[]⟩, .bool false, .bool false, .string ⟨#[]⟩]
theorem law45_witness (os : Os) {H : Type} (enc : TypeId × Value → H) :
    (OpenSpec.ofChange Rows.topForgottenMessagesDoNotCountSpec).preRow enc Tryz.prog Tryz.f3 Rows.topForgottenMessagesDoNotCountRow.domain false laidL ((laidWorld os).forCall (fun _ _ => 0) ⟨#[], wit, []⟩).memory wit := by
  have hw : (DataW.whole enc Tryz.prog ((laidWorld os).forCall (fun _ _ => 0) ⟨#[], wit, []⟩).memory Tryz.f3.params.toList (OpenSpec.ofChange Rows.topForgottenMessagesDoNotCountSpec).vars false wit.toList 8).map (fun x => (x.1, x.2.1)) =
      some ([.agg [.lit (.int .i64 0), .lit (.int .i64 0), .nil], .lit (.string []), .lit (.string []), .lit (.bool false), .lit (.bool false), .lit (.string [])], []) := by kernel_rfl
  obtain ⟨⟨x1, x2, x3⟩, hx, hx1⟩ := Option.map_eq_some_iff.1 hw
  simp only [Prod.mk.injEq] at hx1
  obtain ⟨rfl, rfl⟩ := hx1
  exact OpenSpec.preRow_of_cond 8 hx (by kernel_rfl) (fun k hk => by cases hk) (by kernel_rfl) (laid_met os _)
set_option maxRecDepth 100000 in
theorem law45_lifted (os : Os) (started : os.Started) (H : Type) (enc : TypeId × Value → H) (F : Stop.Interp) :
    ReturnsInHanded {} Tryz.checked os 3 .any ((OpenSpec.ofChange Rows.topForgottenMessagesDoNotCountSpec).preRow enc Tryz.prog Tryz.f3 Rows.topForgottenMessagesDoNotCountRow.domain false laidL) (((OpenSpec.ofChange Rows.topForgottenMessagesDoNotCountSpec).at F).post enc Tryz.prog Tryz.f3 false true false false) := by
  refine returnsInHanded_of_row (C := Tryz.checked) (s := OpenSpec.ofChange Rows.topForgottenMessagesDoNotCountSpec) Try_own started (by kernel_rfl) Tryz.func3
    (witness_row_atRef (enc := enc) (C := Tryz.checked) false (laidWorld os) wit (World.laidAll_os _ _ _) (by kernel_rfl) (by kernel_rfl) (by kernel_rfl) (law45_witness os enc)) ?_
  intro W base args ds gs before hval hW _ _ _ hL hS _
  exact law45_contract H enc W base args ds gs before hval hW (gw_row hS hL)
theorem law45_facts : joinedFacts Tryz.pinned.checked.prog 3 Tryz.f3 (OpenSpec.ofChange Rows.topForgottenMessagesDoNotCountSpec).bare Rows.topForgottenMessagesDoNotCountRow = true := by
  have hl : (Rows.topForgottenMessagesDoNotCountRow.lifted == Tryz.pinned.checked.prog.liftsFinal) = true := fLift
  have hm : (Tryz.pinned.checked.prog.make == some Rows.topForgottenMessagesDoNotCountRow.make) = true := fMake
  unfold joinedFacts
  rw [hl, hm, fMay]
  decide +kernel
theorem law45_row : Rows.TopForgottenMessagesDoNotCountSaid :=
  OpenClaim.holds_of_cond 3 Tryz.f3 rfl rfl rfl rfl rfl rfl rfl ⟨rfl, rfl, rfl, rfl, rfl⟩ rfl rfl rfl rfl rfl (by kernel_rfl) Tryz.func3 law45_facts
    (of_decide_eq_true (by kernel_rfl)) (by unfold Func.isWrapper; first | (rw [if_pos (by decide +kernel)]; kernel_rfl) | (rw [if_neg (by decide +kernel)]; exact ⟨rfl, rfl⟩))
    (fun os started H enc _ F => by rw [OpenClaim.pre_eq_preRow]; exact law45_lifted os started H enc F)
theorem law45_holds : Rows.TopForgottenMessagesDoNotCountCardSaid :=
  Claim7.holds_tied_plain_at .later [] [.data, .data, .data, .data, .sentinel, .sentinel, .data, .pinned, .pinned, .pinned, .pinned] true (true, "d9811cc34a9964823f36e5986d13eb441c5ce35b596745ecca0c8d2b79b92d44") true
    law45_row (fun _ h => by cases h) (by kernel_rfl) (fun _ h => by cases h) topForgottenMessagesDoNotCount_row_tie rfl ⟨rfl, rfl⟩ fMain rfl
    (fun f fn hf hfn => by
      obtain rfl : f = 3 := Option.some.inj ((show Tryz.prog.funcNamed "posthouse/posthousetop.TopForgottenMessagesDoNotCount" = some 3 by kernel_rfl).symm.trans hf) |>.symm
      obtain rfl : fn = Tryz.f3 := (Option.some.inj (Tryz.func3.symm.trans hfn)).symm
      refine ⟨fLooks, fun j t ht => ?_⟩
      rw [Tryz.params3] at ht
      have hm : t ∈ [24, 9, 9, 4, 4, 9] := by simpa using Array.mem_of_getElem? ht
      have hall : ([24, 9, 9, 4, 4, 9].all fun u => !Tryz.prog.wantsStandIn u) = true := by kernel_rfl
      exact (show Tryz.prog.wantsStandIn t = false by simpa using List.all_eq_true.1 hall t hm))
    (by kernel_rfl)
end Go.Proofs.YtomnbknaanlmaaaGreatDoor
