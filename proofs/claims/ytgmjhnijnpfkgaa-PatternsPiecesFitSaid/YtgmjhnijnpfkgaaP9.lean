/- From the machine to the rows: arguments that are read as plain data; the rule on Clone is sound. -/
import Derived.Test.YtgmjhnijnpfkgaaR0
import Derived.Test.YtgmjhnijnpfkgaaGB
import Derived.Test.YtgmjhnijnpfkgaaCont
import Derived.Lib.SliceRun
import Derived.Test.YtgmjhnijnpfkgaaRows
namespace Go.Proofs.Ytgmjhnijnpfkgaa
open Go.ChangeShapes Go.WideShapes Go.ChangeAt Go.RowKit Go.Deep

set_option maxHeartbeats 400000 in
set_option maxRecDepth 4000 in
theorem clone_nil (w : World) : Calls Try.prog 48 #[.slice none 0 0] w fun e w' => e = .returned (.slice none 0 0) ∧ w = w' := by
  have hz : ∀ w : World, (binOp .eql 36 (.slice none 0 0) (.slice none 0 0)).run Try.prog w = .ok (.bool true) w := fun w => Lib.run_eql_slice_nil w _ _ _ _ _ _ _ Try.underlying36
  go_enter Try.func48, Try.ntmps48
  go_wp2
  go_ret
  exact ⟨rfl, rfl⟩
/-- the rules on Clone and strings.Contains -/
theorem X0_ok : ∀ f args r, X0 f args = some r → CallOk Try.prog f args r := by
  intro f args r h
  have hmo : Try.prog.follows .mixedOrders = true := by kernel_rfl
  unfold X0 at h
  cases hf : clones.contains f with
  | false =>
    rw [hf, cond_false] at h
    cases hg : (f == 64) with
    | false => rw [hg] at h; cases h
    | true =>
      rw [hg, cond_true] at h
      have hf' : f = 64 := by simpa using hg
      subst hf'
      split at h
      case h_2 => cases h
      rename_i s t
      cases hp : contP s t with
      | none => rw [hp] at h; cases h
      | some b =>
        rw [hp] at h
        injection h with h
        subst h
        unfold contP at hp
        split at hp
        case isFalse => cases hp
        rename_i hsz
        injection hp with hp
        subst hp
        refine ⟨rfl, (fun b hb => by cases hb), fun w Z Y cargs hG hZ hY hs hr => ?_⟩
        have hs2 : cargs.size = 2 := hs
        have u0 := hr 0 (cargs[0]'(by omega)) _ (Array.getElem?_eq_getElem _) rfl
        have u1 := hr 1 (cargs[1]'(by omega)) _ (Array.getElem?_eq_getElem _) rfl
        have e0 : cargs[0]'(by omega) = .string s := by
          generalize cargs[0]'(by omega) = u at u0
          cases u0 with | c u0 => cases u0; rfl
        have e1 : cargs[1]'(by omega) = .string t := by
          generalize cargs[1]'(by omega) = u at u1
          cases u1 with | c u1 => cases u1; rfl
        obtain rfl : cargs = #[.string s, .string t] := by
          apply Array.ext (by simpa using hs2)
          intro i h1 h2
          match i, h1 with
          | 0, _ => simpa using e0
          | 1, _ => simpa using e1
          | i + 2, h1 => omega
        obtain ⟨⟨m, hm⟩, _⟩ := id hG
        refine (contains_calls s t m w hsz hm).mono fun e w' => ?_
        rintro ⟨rfl, rfl⟩
        exact ⟨_, Z, fun _ => none, rfl, ZUp.refl, ⟨Bel.refl _, hG, hZ, (fun _ _ _ h => by cases h), by simp, by simp, by simp, by simp⟩, .c (.bool _), fun i h => absurd rfl h⟩
  | true =>
    rw [hf, cond_true] at h
    have hf' : f = 48 := by simpa [clones] using hf
    subst hf'
    split at h
    case h_2 => cases h
    injection h with h
    subst h
    have c2 : CallOk Try.prog 48 [.c .ne] (.row 0 0, [.row []]) := Call_sound Try.prog lv (fun _ _ => none) hmo (fun _ _ _ h => by cases h) (Call_fuel (n := 30) (by kernel_rfl))
    refine ⟨c2.1, c2.2.1, fun w Z Y cargs hG hZ hY hs hr => ?_⟩
    have hs1 : cargs.size = 1 := hs
    obtain ⟨u, hu⟩ : ∃ u, cargs[0]? = some u := ⟨cargs[0]'(by omega), Array.getElem?_eq_getElem _⟩
    have r0 := hr 0 u _ hu rfl
    cases r0 with
    | c r0 =>
    have one : ∀ y : C, RepC Z u y → ∀ (i : Nat) u' x, cargs[i]? = some u' → [V.c y][i]? = some x → Rep Z Y noM u' x := by
      intro y hy i u' x h1 h2
      cases i with
      | zero =>
        rw [hu] at h1
        injection h1 with h1; subst h1
        simp at h2; subst h2
        exact .c hy
      | succ i => simp at h2
    cases r0 with
    | sl A n c k b off U es hl hc hm hk hA hz hr' hN =>
      have hl' : n = 0 := by simpa using hl.symm
      subst hl'
      cases A with
      | none =>
        have := hN rfl
        subst this
        obtain rfl : cargs = #[.slice none 0 0] := by
          apply Array.ext (by simpa using hs1)
          intro i h1 h2
          have : i = 0 := by simp at h2; omega
          subst this
          rw [Array.getElem?_eq_getElem h1] at hu
          injection hu
        refine (clone_nil w).mono fun e w' => ?_
        rintro ⟨rfl, rfl⟩
        refine ⟨_, Z, fun i => if i = 0 then some (.slice none 0 0) else none, rfl, ZUp.refl, ⟨Bel.refl _, hG, hZ, (fun _ _ _ h => by cases h), ?_, ?_, ?_, ?_⟩, .row 0 0 none 0 (by simp) (by simp), ?_⟩
        · intro id cs h
          cases id <;> simp at h
        · intro id es h
          cases id with
          | zero => simp at h; subst h; exact .inl ⟨by simp, rfl⟩
          | succ id => simp at h
        · intro id es q v h
          cases id <;> simp at h
        · intro id id' g _ _ h
          unfold blkOf at h
          by_cases h0 : id = 0 <;> simp [h0] at h
        · intro i h
          by_cases h0 : i = 0
          · subst h0; simp
          · simp [h0] at h
      | some a => exact c2.2.2 w Z Y cargs hG hZ hY hs (one .ne (.ne a c hm))

/-- memory at the call -/
def Zw (w : World) : ZMap := fun b o => w.cell? ⟨b, o, none⟩
theorem law_calls {f : FuncId} {args : List V} {cargs : Array Value} {W : World} (hC : Call Try.prog lv X0 f args = some (.c (.bool true), [])) (hG : GW W) (hsz : cargs.size = args.length)
    (hrep : ∀ (i : Nat) u x, cargs[i]? = some u → args[i]? = some x → Rep (Zw W) (fun _ _ => none) noM u x) : Calls Try.prog f cargs W fun e W' => e = .returned (.bool true) ∧ Bel W W' := by
  have ok := Call_sound Try.prog lv X0 (by kernel_rfl) X0_ok hC
  refine (ok.2.2 W (Zw W) (fun _ _ => none) cargs hG (fun _ _ _ h => h) (fun _ _ _ h => by cases h) hsz hrep).mono fun e W' => ?_
  rintro ⟨cv, Z', m', rfl, _, R, r, _⟩
  cases r with
  | c r =>
  cases r
  exact ⟨rfl, R.bel⟩

end Go.Proofs.Ytgmjhnijnpfkgaa
