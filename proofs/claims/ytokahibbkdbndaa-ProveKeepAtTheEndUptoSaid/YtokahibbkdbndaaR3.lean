/- The two statements on prove: for every script of bulk at most 1048576 the law returns true, and the argument reads as before. -/
import Derived.Test.YtokahibbkdbndaaR2
import Derived.HandedShaped
import Derived.ChangeMaps5
namespace Go.Proofs.Ytokahibbkdbndaa
open Go.ChangeShapes Go.WideShapes Go.ChangeAt Go.ChangeMaps Go.RowKit Go.Deep

theorem moQ_ok : Try.prog.follows .mixedOrders = true := by kernel_rfl
theorem X0Q_ok : ∀ f args r, X0 f args = some r → CallOk Try.prog f args r := by
  intro f args r h
  unfold X0 clones at h
  cases h
/-- from the machine to the model, at a row's arguments -/
theorem lawQ_calls {f : FuncId} {args : List V} {cargs : Array Value} {W : World} (hC : Call Try.prog lv X0 f args = some (.c (.bool true), [])) (hG : GW W) (hsz : cargs.size = args.length)
    (hrep : ∀ (i : Nat) u x, cargs[i]? = some u → args[i]? = some x → Rep (Zw W) (fun _ _ => none) noM u x) : Calls Try.prog f cargs W fun e W' => e = .returned (.bool true) ∧ Bel W W' := by
  have ok := Call_sound Try.prog lv X0 moQ_ok X0Q_ok hC
  refine (ok.2.2 W (Zw W) (fun _ _ => none) cargs hG (fun _ _ _ h => h) (fun _ _ _ h => by cases h) hsz hrep).mono fun e W' => ?_
  rintro ⟨cv, Z', m', rfl, _, R, r, _⟩
  cases r with
  | c r =>
  cases r
  exact ⟨rfl, wb_bel.1 R.bel⟩

theorem law1_contract (H : Type) (enc : TypeId × Value → H) (W : World) (base : Nat) (args : Array Value) (ds gs : List (DataW H)) (before : List MemPlace)
    (hval : ∀ (j : Nat) t v, Try.f3.params[j]? = some t → args[j]? = some v → Value.okWide Try.prog W .any base t v)
    (hW : DataW.Whole enc Try.prog Try.f3.params.toList Rows.proveMatchesSpecSpec.vars false W args.toList ds gs before) (hk : Rows.uptoSmall H (ds ++ gs) = true) :
    Calls Try.prog 3 args W fun e W' => ∃ v, e = .returned v ∧ Rows.proveMatchesSpecSpec.post enc Try.prog Try.f3 false true false false W args v W' := by
  have hW' := hW
  obtain ⟨p, q, hA, hV, _, _, _⟩ := hW
  obtain ⟨rfl, rfl⟩ := trodVars_none hV
  rw [Try.params3] at hA hval
  obtain ⟨v0, d0, hargs, rfl, h0⟩ := trodAll_one hA
  obtain rfl : args = #[v0] := by cases args; simp_all
  have hbk := bulk_small hk
  simp [Rows.uptoBulkAll] at hbk
  obtain ⟨l, rc, hs, hl, hz⟩ := open_rules (okWide_slice Try.underlying22 (hval 0 22 v0 rfl rfl)) (by omega) h0
  have hc := fS_call (spec_s hs)
  refine (lawQ_calls (cargs := #[v0]) hc trivial rfl ?_).mono fun e W' ⟨he, hb⟩ => ?_
  · intro i u x hu hx
    match i with
    | 0 => simp at hu; subst hu; injection hx with hx; subst hx; exact .c rc
    | i + 1 => simp at hu
  subst he
  exact ⟨_, rfl, law_post (tb := 4) Try_laid (by kernel_rfl) rfl Try.underlying4 rfl rfl hW' hb⟩

set_option maxRecDepth 100000 in
theorem law1_lifted (os : Os) (started : os.Started) (H : Type) (enc : TypeId × Value → H) (F : Stop.Interp) :
    ReturnsInHanded {} Try.checked os 3 .any ((Rows.OpenSpec.upto Rows.proveMatchesSpecSpec).pre6 enc Try.prog Try.f3 Rows.proveMatchesSpecUptoRow.domain false) (((Rows.OpenSpec.upto Rows.proveMatchesSpecSpec).at F).post enc Try.prog Try.f3 false true false false) := by
  refine returnsInHanded_of_cond (C := Try.checked) (s := Rows.OpenSpec.upto Rows.proveMatchesSpecSpec) (k := Rows.uptoSmall) rfl Try_own started (by kernel_rfl) Try.func3
    (OpenSpec.witness (enc := enc) (C := Try.checked) (s := Rows.OpenSpec.upto Rows.proveMatchesSpecSpec) (k := Rows.uptoSmall) rfl false ⟨#[], #[.slice none 0 0], []⟩ 8 (by kernel_rfl) (by kernel_rfl) (by kernel_rfl)
      (x := ([.nil], [], [])) (by kernel_rfl) rfl (by kernel_rfl)) ?_
  intro W base args ds gs before hval hW _ hk _
  exact law1_contract H enc W base args ds gs before hval hW hk

theorem proveMatchesSpec_holds : Rows.ProveMatchesSpecUptoSaid :=
  OpenClaim.holds_of_cond 3 Try.f3 rfl rfl rfl rfl rfl rfl rfl ⟨rfl, rfl, rfl, rfl, rfl⟩ rfl rfl rfl rfl rfl (by kernel_rfl) Try.func3 (by kernel_rfl)
    (of_decide_eq_true (by kernel_rfl)) (by unfold Func.isWrapper; first | (rw [if_pos (by decide +kernel)]; kernel_rfl) | (rw [if_neg (by decide +kernel)]; exact ⟨rfl, rfl⟩))
    (fun os started H enc _ F => law1_lifted os started H enc F)

theorem law2_contract (H : Type) (enc : TypeId × Value → H) (W : World) (base : Nat) (args : Array Value) (ds gs : List (DataW H)) (before : List MemPlace)
    (hval : ∀ (j : Nat) t v, Try.f4.params[j]? = some t → args[j]? = some v → Value.okWide Try.prog W .any base t v)
    (hW : DataW.Whole enc Try.prog Try.f4.params.toList Rows.proveKeepAtTheEndSpec.vars false W args.toList ds gs before) (hk : Rows.uptoSmall H (ds ++ gs) = true) :
    Calls Try.prog 4 args W fun e W' => ∃ v, e = .returned v ∧ Rows.proveKeepAtTheEndSpec.post enc Try.prog Try.f4 false true false false W args v W' := by
  have hW' := hW
  obtain ⟨p, q, hA, hV, _, _, _⟩ := hW
  obtain ⟨rfl, rfl⟩ := trodVars_none hV
  rw [Try.params4] at hA hval
  obtain ⟨v0, d0, hargs, rfl, h0⟩ := trodAll_one hA
  obtain rfl : args = #[v0] := by cases args; simp_all
  have hbk := bulk_small hk
  simp [Rows.uptoBulkAll] at hbk
  obtain ⟨l, rc, hs, hl, hz⟩ := open_rules (okWide_slice Try.underlying22 (hval 0 22 v0 rfl rfl)) (by omega) h0
  have hc := fS_call (keep_s hs (by omega) (by unfold many; omega))
  refine (lawQ_calls (cargs := #[v0]) hc trivial rfl ?_).mono fun e W' ⟨he, hb⟩ => ?_
  · intro i u x hu hx
    match i with
    | 0 => simp at hu; subst hu; injection hx with hx; subst hx; exact .c rc
    | i + 1 => simp at hu
  subst he
  exact ⟨_, rfl, law_post (tb := 4) Try_laid (by kernel_rfl) rfl Try.underlying4 rfl rfl hW' hb⟩

set_option maxRecDepth 100000 in
theorem law2_lifted (os : Os) (started : os.Started) (H : Type) (enc : TypeId × Value → H) (F : Stop.Interp) :
    ReturnsInHanded {} Try.checked os 4 .any ((Rows.OpenSpec.upto Rows.proveKeepAtTheEndSpec).pre6 enc Try.prog Try.f4 Rows.proveKeepAtTheEndUptoRow.domain false) (((Rows.OpenSpec.upto Rows.proveKeepAtTheEndSpec).at F).post enc Try.prog Try.f4 false true false false) := by
  refine returnsInHanded_of_cond (C := Try.checked) (s := Rows.OpenSpec.upto Rows.proveKeepAtTheEndSpec) (k := Rows.uptoSmall) rfl Try_own started (by kernel_rfl) Try.func4
    (OpenSpec.witness (enc := enc) (C := Try.checked) (s := Rows.OpenSpec.upto Rows.proveKeepAtTheEndSpec) (k := Rows.uptoSmall) rfl false ⟨#[], #[.slice none 0 0], []⟩ 8 (by kernel_rfl) (by kernel_rfl) (by kernel_rfl)
      (x := ([.nil], [], [])) (by kernel_rfl) rfl (by kernel_rfl)) ?_
  intro W base args ds gs before hval hW _ hk _
  exact law2_contract H enc W base args ds gs before hval hW hk

theorem proveKeepAtTheEnd_holds : Rows.ProveKeepAtTheEndUptoSaid :=
  OpenClaim.holds_of_cond 4 Try.f4 rfl rfl rfl rfl rfl rfl rfl ⟨rfl, rfl, rfl, rfl, rfl⟩ rfl rfl rfl rfl rfl (by kernel_rfl) Try.func4 (by kernel_rfl)
    (of_decide_eq_true (by kernel_rfl)) (by unfold Func.isWrapper; first | (rw [if_pos (by decide +kernel)]; kernel_rfl) | (rw [if_neg (by decide +kernel)]; exact ⟨rfl, rfl⟩))
    (fun os started H enc _ F => law2_lifted os started H enc F)
end Go.Proofs.Ytokahibbkdbndaa
