/- Small laws that plain proofs over extracted functions use. -/
import Derived.Test.YtbbaldhmeifloaaGB
namespace Go.Proofs.Ytbbaldhmeifloaa
open Go.RowKit

theorem brE_if {β : Type} (q : Bool) (a b : Option β) : brE q a b = if q = true then a else b := by cases q <;> rfl
theorem gdE_if {β : Type} (q : Bool) (a : Option β) : gdE q a = if q = true then a else none := by cases q <;> rfl
theorem beq_t (q : Bool) : (q == true) = q := by cases q <;> rfl
theorem beq_f (q : Bool) : (q == false) = !q := by cases q <;> rfl
theorem EC_take {τ : Type} (e : EC τ) (xs : List τ) (n : Nat) : (e.encL xs).take n = e.encL (xs.take n) := by simp [EC.encL, List.map_take]
theorem EC_drop {τ : Type} (e : EC τ) (xs : List τ) (n : Nat) : (e.encL xs).drop n = e.encL (xs.drop n) := by simp [EC.encL, List.map_drop]
theorem EC_append {τ : Type} (e : EC τ) (xs ys : List τ) : e.encL xs ++ e.encL ys = e.encL (xs ++ ys) := by simp [EC.encL]
theorem EC_nilD {τ : Type} (e : EC τ) : e.decL [] = [] := rfl
theorem EC_nilI {τ : Type} (e : EC τ) : e.isL [] = true := rfl
theorem EC_empty {τ : Type} (e : EC τ) (xs : List τ) : (e.encL xs).isEmpty = xs.isEmpty := by cases xs <;> rfl
theorem EC_set {τ : Type} (e : EC τ) (xs : List τ) (n : Nat) (x : τ) : (e.encL xs).set n (e.enc x) = e.encL (xs.set n x) := by simp [EC.encL, List.map_set]
theorem EC_rep {τ : Type} (e : EC τ) (n : Nat) (x : τ) : List.replicate n (e.enc x) = e.encL (List.replicate n x) := by simp [EC.encL]
theorem drop_at {α : Type} {l : List α} {k : Nat} (h : k < l.length) : l.drop k = l[k] :: l.drop (k + 1) := List.drop_eq_getElem_cons h
theorem take_at {α : Type} {l : List α} {k : Nat} (h : k < l.length) : l.take (k + 1) = l.take k ++ [l[k]] := by rw [List.take_add_one, List.getElem?_eq_getElem h]; rfl
theorem wrap_nat {k n : Nat} (h : k < n) (hn : n ≤ 9223372036854775807) : IntKind.i64.wrap ((k : Int) + 1) = ((k + 1 : Nat) : Int) := by rw [IntWalk.i64_in _ (by omega)]; rfl
theorem wrap_in {x : Int} (h0 : -9223372036854775808 ≤ x) (h1 : x ≤ 9223372036854775807) : IntKind.i64.wrap x = x := IntWalk.i64_in _ (by omega)
theorem getD_in {α : Type} {l : List α} {k : Nat} {d : α} (h : k < l.length) : l.getD k d = l[k] := by simp [List.getD_eq_getElem?_getD, h]
/-- a result that is there -/
theorem some_of {α β : Type} {x : Option α} {f : α → Option β} {b : β} (h : x.bind f = some b) : ∃ a, x = some a ∧ f a = some b := by
  cases x with
  | none => cases h
  | some a => exact ⟨a, rfl, h⟩
/-- the first element of a kind, counted from k on; -1: there is none -/
def gidx {α : Type} (p : α → Bool) (k : Nat) : List α → Int
  | [] => -1
  | g :: l => if p g then (k : Int) else gidx p (k + 1) l
theorem gidx_spec {α : Type} (p : α → Bool) : ∀ (l : List α) (k : Nat), (gidx p k l = -1 ∧ ∀ x ∈ l, p x = false) ∨ ∃ (i : Nat) (h : i < l.length), gidx p k l = ((k + i : Nat) : Int) ∧ p l[i] = true ∧ ∀ x ∈ l.take i, p x = false
  | [], k => .inl ⟨rfl, by simp⟩
  | g :: l, k => by
    cases hp : p g with
    | true => exact .inr ⟨0, by simp, by simp [gidx, hp], by simpa using hp, by simp⟩
    | false =>
      rcases gidx_spec p l (k + 1) with ⟨h1, h2⟩ | ⟨i, hi, h1, h2, h3⟩
      · exact .inl ⟨by simp [gidx, hp, h1], fun x hx => by rcases List.mem_cons.1 hx with e | e; exact e ▸ hp; exact h2 x e⟩
      · refine .inr ⟨i + 1, by simpa using hi, by simp only [gidx, hp, Bool.false_eq_true, if_false, h1]; congr 1; omega, by simpa using h2, fun x hx => ?_⟩
        rw [List.take_succ_cons] at hx
        rcases List.mem_cons.1 hx with e | e
        · exact e ▸ hp
        · exact h3 x e
theorem gidx_lt {α : Type} (p : α → Bool) (l : List α) (k : Nat) : decide (0 ≤ gidx p k l) = l.any p := by
  rcases gidx_spec p l k with ⟨h1, h2⟩ | ⟨i, hi, h1, h2, h3⟩
  · have : l.any p = false := by rw [List.any_eq_false]; intro x hx; simp [h2 x hx]
    rw [h1, this]; rfl
  · have : l.any p = true := List.any_eq_true.2 ⟨_, List.getElem_mem hi, h2⟩
    rw [this, h1]; simp; omega
end Go.Proofs.Ytbbaldhmeifloaa
