/- The base of the second lot of functions made by program: freebusy.Union is answered by a rule. -/
import Derived.Test.YtbbaldhmeifloaaU7
namespace Go.Proofs.Ytbbaldhmeifloaa
open Go.RowKit
/-- what Union answers -/
def unionS (l : List Pd) : Option (Nat × List Pd) := if l.length ≤ 1000000 then some ((unionU l).length, unionU l) else none
def X1 : FuncId → List V → Option (V × List B) := fun f a => bif f == 44 then (match a with | [.c (.sl es)] => if ec_58.isL es = true then (unionS (ec_58.decL es)).map fun r => (.row 0 r.1, [.row (ec_58.encL r.2)]) else none | _ => none) else X0 f a
def union_ca : Cod (List V) (List Pd) := lOne (vC (cSl ec_58))
def union_cr : Cod (V × List B) (Nat × List Pd) := cPair (vRow 0) (lOne (bRow ec_58))
theorem union_call (x : List Pd) (r : Nat × List Pd) (h : unionS x = some r) : Call Try.prog lv X1 44 (union_ca.enc x) = some (union_cr.enc r) := by
  have : X1 44 (union_ca.enc x) = some (union_cr.enc r) := by
    show (if ec_58.isL (ec_58.encL x) = true then (unionS (ec_58.decL (ec_58.encL x))).map fun r => ((.row 0 r.1, [.row (ec_58.encL r.2)]) : V × List B) else none) = _
    rw [EC.isL_encL, EC.decL_encL, h]
    rfl
  unfold Call callD
  rw [this]
noncomputable def union_e : Ent Try.prog lv X1 := entS Try.prog lv X1 44 [] union_ca union_cr unionS union_call
noncomputable def tab1 : List (Ent Try.prog lv X1) := [union_e]
theorem X1_ok : ∀ f args r, X1 f args = some r → CallOk Try.prog f args r := by
  intro f args r h
  unfold X1 at h
  cases hf : (f == 44) with
  | false => rw [hf, cond_false] at h; exact X0_ok f args r h
  | true =>
    rw [hf, cond_true] at h
    have hf' : f = 44 := by simpa using hf
    subst hf'
    split at h
    case h_2 => cases h
    rename_i es
    split at h
    case isFalse => cases h
    rename_i hes
    unfold unionS at h
    split at h
    case isFalse => cases h
    rename_i hl
    injection h with h
    subst h
    have := union_ok (ec_58.decL es) hl
    rw [EC.encL_decL _ hes] at this
    exact this
/-- from the machine to the model, at a row's arguments -/
theorem law_calls {f : FuncId} {args : List V} {cargs : Array Value} {W : World} (hC : Call Try.prog lv X1 f args = some (.c (.bool true), [])) (hG : GW W) (hsz : cargs.size = args.length)
    (hrep : ∀ (i : Nat) u x, cargs[i]? = some u → args[i]? = some x → Rep (Zw W) (fun _ _ => none) noM u x) : Calls Try.prog f cargs W fun e W' => e = .returned (.bool true) ∧ Bel W W' := by
  have ok := Call_sound Try.prog lv X1 mo_ok X1_ok hC
  refine (ok.2.2 W (Zw W) (fun _ _ => none) cargs hG (fun _ _ _ h => h) (fun _ _ _ h => by cases h) hsz hrep).mono fun e W' => ?_
  rintro ⟨cv, Z', m', rfl, _, R, r, _⟩
  cases r with
  | c r =>
  cases r
  exact ⟨rfl, R.bel⟩
end Go.Proofs.Ytbbaldhmeifloaa
