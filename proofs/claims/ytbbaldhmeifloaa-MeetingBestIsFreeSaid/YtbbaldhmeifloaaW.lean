/- From the machine to the model: what the machine's pieces answer holds at the model's frames; the rule on Clone is sound. -/
import Derived.Test.YtbbaldhmeifloaaK0
import Derived.Test.YtbbaldhmeifloaaChecked
import Derived.Lib.SliceRun
namespace Go.Proofs.Ytbbaldhmeifloaa
open Go.RowKit

section
variable {P : Program} {live : FuncId → Nat → List Nat} {X : FuncId → List V → Option (V × List B)}
theorem Exec_ok (hmo : P.follows .mixedOrders = true) (hX : ∀ f args r, X f args = some r → CallOk P f args r) {f : FuncId} {nt : Nat} {c : Code} {s : St} {r : Nat × St} (h : Exec P live X f nt c s = some r) (Y : ZMap) (w0 : World) : CodeOk P Y w0 nt c s r := by
  obtain ⟨N, hN⟩ := Exec_some P live X h
  exact (execD_sim hmo hX N f nt c s r Y w0 (hN N (Nat.le_refl _))).1
/-- a loop, at the model's frame -/
theorem lS_ok (hmo : P.follows .mixedOrders = true) (hX : ∀ f args r, X f args = some r → CallOk P f args r) {σ ω : Type} {f nt : Nat} {c : Code} {s : SC σ} {o : OC ω} {x : σ} {r : ω} (h : lS P live X f nt c s o x = some r)
    (hc : canon (headOf live f c) (s.c.enc x).st = (s.c.enc x).st) (Y : ZMap) (w0 : World) : CodeOk P Y w0 nt (.loop c) (s.c.enc x).st ((o.enc r).1, (o.enc r).2.st) := by
  refine Exec_ok (live := live) hmo hX (f := f) ?_ Y w0
  apply Exec_step
  rw [stepC_from, hc]
  exact lS_from h
/-- a piece of code, at the model's frame -/
theorem gS_ok (hmo : P.follows .mixedOrders = true) (hX : ∀ f args r, X f args = some r → CallOk P f args r) {σ ω : Type} {f nt : Nat} {c : Code} {s : SC σ} {o : OC ω} {x : σ} {r : ω} (h : gS P live X f nt c s o x = some r) (Y : ZMap) (w0 : World) : CodeOk P Y w0 nt c (s.c.enc x).st ((o.enc r).1, (o.enc r).2.st) :=
  Exec_ok (live := live) hmo hX (f := f) (Exec_step P live X (gS_from h)) Y w0
end

set_option maxHeartbeats 400000 in
set_option maxRecDepth 4000 in
theorem cloneG_nil (w : World) : Calls Try.prog 78 #[.slice none 0 0] w fun e w' => e = .returned (.slice none 0 0) ∧ w = w' := by
  have hz : ∀ w : World, (binOp .eql 83 (.slice none 0 0) (.slice none 0 0)).run Try.prog w = .ok (.bool true) w := fun w => Lib.run_eql_slice_nil w _ _ _ _ _ _ _ Try.underlying83
  go_enter Try.func78, Try.ntmps78
  go_wp2
  go_ret
  exact ⟨rfl, rfl⟩
set_option maxHeartbeats 400000 in
set_option maxRecDepth 4000 in
theorem cloneP_nil (w : World) : Calls Try.prog 66 #[.slice none 0 0] w fun e w' => e = .returned (.slice none 0 0) ∧ w = w' := by
  have hz : ∀ w : World, (binOp .eql 45 (.slice none 0 0) (.slice none 0 0)).run Try.prog w = .ok (.bool true) w := fun w => Lib.run_eql_slice_nil w _ _ _ _ _ _ _ Try.underlying45
  go_enter Try.func66, Try.ntmps66
  go_wp2
  go_ret
  exact ⟨rfl, rfl⟩
/-- one instance of Clone -/
theorem clone_ok {f : FuncId} (hnil : ∀ w, Calls Try.prog f #[.slice none 0 0] w fun e w' => e = .returned (.slice none 0 0) ∧ w = w') (c2 : CallOk Try.prog f [.c .ne] (.row 0 0, [.row []])) : CallOk Try.prog f [.c (.sl [])] (.row 0 0, [.row []]) := by
  refine ⟨c2.1, c2.2.1, fun w Z Y cargs hG hZ hY hs hr => ?_⟩
  have hs1 : cargs.size = 1 := hs
  obtain ⟨u, hu⟩ : ∃ u, cargs[0]? = some u := ⟨cargs[0]'(by omega), Array.getElem?_eq_getElem _⟩
  have r0 := hr 0 u _ hu rfl
  cases r0 with
  | c r0 =>
  have one : ∀ y : C, RepC Z u y → ∀ (i : Nat) u' x, cargs[i]? = some u' → [V.c y][i]? = some x → Rep Z Y noM u' x := by
    intro y hy i u' x h1 h2
    cases i with
    | zero =>
      rw [hu] at h1
      injection h1 with h1; subst h1
      simp at h2; subst h2
      exact .c hy
    | succ i => simp at h2
  cases r0 with
  | sl A n c k b off U es hl hc hm hk hA hz hr' hN =>
    have hl' : n = 0 := by simpa using hl.symm
    subst hl'
    cases A with
    | none =>
      have := hN rfl
      subst this
      obtain rfl : cargs = #[.slice none 0 0] := by
        apply Array.ext (by simpa using hs1)
        intro i h1 h2
        have : i = 0 := by simp at h2; omega
        subst this
        rw [Array.getElem?_eq_getElem h1] at hu
        injection hu
      refine (hnil w).mono fun e w' => ?_
      rintro ⟨rfl, rfl⟩
      refine ⟨_, Z, fun i => if i = 0 then some (.slice none 0 0) else none, rfl, ZUp.refl, ⟨Bel.refl _, hG, hZ, (fun _ _ _ h => by cases h), ?_, ?_, ?_, ?_⟩, .row 0 0 none 0 (by simp) (by simp), ?_⟩
      · intro id cs h
        cases id <;> simp at h
      · intro id es h
        cases id with
        | zero => simp at h; subst h; exact .inl ⟨by simp, rfl⟩
        | succ id => simp at h
      · intro id es q v h
        cases id <;> simp at h
      · intro id id' g _ _ h
        unfold blkOf at h
        by_cases h0 : id = 0 <;> simp [h0] at h
      · intro i h
        by_cases h0 : i = 0
        · subst h0; simp
        · simp [h0] at h
    | some a => exact c2.2.2 w Z Y cargs hG hZ hY hs (one .ne (.ne a c hm))
theorem mo_ok : Try.prog.follows .mixedOrders = true := by kernel_rfl
theorem X0_ok : ∀ f args r, X0 f args = some r → CallOk Try.prog f args r := by
  intro f args r h
  unfold X0 at h
  cases hf : clones.contains f with
  | false => rw [hf] at h; cases h
  | true =>
    rw [hf, cond_true] at h
    split at h
    case h_2 => cases h
    injection h with h
    subst h
    have hm : f ∈ clones := by simpa using hf
    unfold clones at hm
    simp only [List.mem_cons, List.not_mem_nil, or_false] at hm
    have c2 : ∀ g, callD Try.prog (fun _ _ => none) (execD Try.prog lv (fun _ _ => none) 30) g [.c .ne] = some (.row 0 0, [.row []]) → CallOk Try.prog g [.c .ne] (.row 0 0, [.row []]) := fun g h => Call_sound Try.prog lv (fun _ _ => none) mo_ok (fun _ _ _ h => by cases h) (Call_fuel (n := 30) h)
    have one : f = 66 ∨ f = 78 := by omega
    rcases one with rfl | rfl
    · exact clone_ok cloneP_nil (c2 _ (by kernel_rfl))
    · exact clone_ok cloneG_nil (c2 _ (by kernel_rfl))
end Go.Proofs.Ytbbaldhmeifloaa
