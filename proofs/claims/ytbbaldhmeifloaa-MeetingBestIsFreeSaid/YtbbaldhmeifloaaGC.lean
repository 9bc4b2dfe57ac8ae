/- The base of the third lot of functions made by program: slices.Concat and freebusy.Union are answered by rules. -/
import Derived.Test.YtbbaldhmeifloaaME
namespace Go.Proofs.Ytbbaldhmeifloaa
open Go.RowKit
/-- what Concat answers -/
def catS (ls : List (List Pd)) : Option (Nat × List Pd) := if ls.flatten.length ≤ 1000000 then some (ls.flatten.length, ls.flatten) else none
def X2 : FuncId → List V → Option (V × List B) := fun f a => bif f == 52 then (match a with | [.c (.sl es)] => if ec_45.isL es = true then (catS (ec_45.decL es)).map fun r => (.row 0 r.1, [.row (ec_58.encL r.2)]) else none | _ => none) else X1 f a
def cat_ca : Cod (List V) (List (List Pd)) := lOne (vC (cSl ec_45))
theorem cat_call (x : List (List Pd)) (r : Nat × List Pd) (h : catS x = some r) : Call Try.prog lv X2 52 (cat_ca.enc x) = some (union_cr.enc r) := by
  have : X2 52 (cat_ca.enc x) = some (union_cr.enc r) := by
    show (if ec_45.isL (ec_45.encL x) = true then (catS (ec_45.decL (ec_45.encL x))).map fun r => ((.row 0 r.1, [.row (ec_58.encL r.2)]) : V × List B) else none) = _
    rw [EC.isL_encL, EC.decL_encL, h]
    rfl
  unfold Call callD
  rw [this]
noncomputable def cat_e : Ent Try.prog lv X2 := entS Try.prog lv X2 52 [] cat_ca union_cr catS cat_call
theorem union_call2 (x : List Pd) (r : Nat × List Pd) (h : unionS x = some r) : Call Try.prog lv X2 44 (union_ca.enc x) = some (union_cr.enc r) := by
  have : X2 44 (union_ca.enc x) = some (union_cr.enc r) := by
    show (if ec_58.isL (ec_58.encL x) = true then (unionS (ec_58.decL (ec_58.encL x))).map fun r => ((.row 0 r.1, [.row (ec_58.encL r.2)]) : V × List B) else none) = _
    rw [EC.isL_encL, EC.decL_encL, h]
    rfl
  unfold Call callD
  rw [this]
noncomputable def union2_e : Ent Try.prog lv X2 := entS Try.prog lv X2 44 [] union_ca union_cr unionS union_call2
theorem X2_ok : ∀ f args r, X2 f args = some r → CallOk Try.prog f args r := by
  intro f args r h
  unfold X2 at h
  cases hf : (f == 52) with
  | false => rw [hf, cond_false] at h; exact X1_ok f args r h
  | true =>
    rw [hf, cond_true] at h
    have hf' : f = 52 := by simpa using hf
    subst hf'
    split at h
    case h_2 => cases h
    rename_i es
    split at h
    case isFalse => cases h
    rename_i hes
    unfold catS at h
    split at h
    case isFalse => cases h
    rename_i hl
    injection h with h
    subst h
    have := cat_ok (ec_45.decL es) hl
    rw [EC.encL_decL _ hes] at this
    exact this
/-- the small meeting is agreed upon: by running it -/
def agreedS : Option Bool := some true
set_option maxRecDepth 100000 in
theorem agreed_run : callD Try.prog X2 (execD Try.prog lv X2 100) 30 [] = some (.c (.bool true), []) := by kernel_rfl
def agreed_ca : Cod (List V) Unit := lNil
def agreed_cr : Cod (V × List B) Bool := cFstU (cPair (vC cBool) lNil)
theorem agreed_true : Call Try.prog lv X2 30 [] = some (.c (.bool true), []) := Call_fuel agreed_run
theorem agreed_call (x : Unit) (r : Bool) (h : agreedS = some r) : Call Try.prog lv X2 30 (agreed_ca.enc x) = some (agreed_cr.enc r) := by
  cases r with
  | true => exact agreed_true
  | false => unfold agreedS at h; cases h
noncomputable def agreed_e : Ent Try.prog lv X2 := entS Try.prog lv X2 30 [] agreed_ca agreed_cr (fun _ => agreedS) agreed_call
noncomputable def tab2 : List (Ent Try.prog lv X2) := [cat_e, union2_e, agreed_e]
/-- from the machine to the model, at a row's arguments -/
theorem law_calls2 {f : FuncId} {args : List V} {cargs : Array Value} {W : World} (hC : Call Try.prog lv X2 f args = some (.c (.bool true), [])) (hG : GW W) (hsz : cargs.size = args.length)
    (hrep : ∀ (i : Nat) u x, cargs[i]? = some u → args[i]? = some x → Rep (Zw W) (fun _ _ => none) noM u x) : Calls Try.prog f cargs W fun e W' => e = .returned (.bool true) ∧ Bel W W' := by
  have ok := Call_sound Try.prog lv X2 mo_ok X2_ok hC
  refine (ok.2.2 W (Zw W) (fun _ _ => none) cargs hG (fun _ _ _ h => h) (fun _ _ _ h => by cases h) hsz hrep).mono fun e W' => ?_
  rintro ⟨cv, Z', m', rfl, _, R, r, _⟩
  cases r with
  | c r =>
  cases r
  exact ⟨rfl, R.bel⟩
end Go.Proofs.Ytbbaldhmeifloaa
