/- The base of the functions that are made by program. -/
import Derived.Test.YtokahibbkdbndaaG
import Derived.Test.YtokahibbkdbndaaDTab
import Derived.Lib.IndexMore
namespace Go.Proofs.Ytokahibbkdbndaa
open Go.RowKit
def cdF (fn : Func) : Code := fn.body.getD .skip
/-- all loops -/
def loopsIn : Code → List Code
  | .loop c => c :: loopsIn c
  | .seq a b => loopsIn a ++ loopsIn b
  | .cond _ a b => loopsIn a ++ loopsIn b
  | .block _ c => loopsIn c
  | _ => []
def getLoop (c : Code) (id : Nat) : Code := ((loopsIn c).find? fun l => match fstRegion l with | some i => i == id | none => false).getD .skip
/-- the instances of slices.Clone -/
def clones : List FuncId := [ ]
/-- strings.Contains -/
def contP (s t : ByteArray) : Option Bool := if s.size < 4294967281 then some (Lib.contains s.data.toList t.data.toList) else none
/-- functions that are answered by a rule of their own -/
def X0 : FuncId → List V → Option (V × List B) := fun f a => bif clones.contains f then (match a with | [.c (.sl [])] => some (.row 0 0, [.row []]) | _ => none) else
  none
noncomputable def tab0 : List (Ent Try.prog lv X0) :=
  []
theorem EC.getD_lt {τ : Type} (e : EC τ) (xs : List τ) {n : Nat} (h : n < xs.length) : (e.encL xs).getD n [] = e.enc xs[n] := by
  simp [EC.encL, List.getD_eq_getElem?_getD, h]
theorem EC.getD_ge {τ : Type} (e : EC τ) (xs : List τ) {n : Nat} (h : xs.length ≤ n) : (e.encL xs).getD n [] = [] := by
  simp [EC.encL, List.getD_eq_getElem?_getD, h]
@[simp] theorem EC.encL_length {τ : Type} (e : EC τ) (xs : List τ) : (e.encL xs).length = xs.length := by simp [EC.encL]
/-- for the tool: what the table lacks goes on in cl, lp -/
def lookC {X : FuncId → List V → Option (V × List B)} (β : Type) : List (Ent Try.prog lv X) → (FuncId → List V → (V × List B → Option β) → Option β) → FuncId → List V → (V × List B → Option β) → Option β
  | [], d, f, a, k => d f a k
  | e :: es, d, f, a, k => bif f == e.f && keyEq e.key (keyOf a) then e.run β a k else lookC β es d f a k
def lookLC {X : FuncId → List V → Option (V × List B)} (β : Type) (f nt : Nat) : List (LEnt Try.prog lv X f nt) → Bool → (Nat → LS → (Nat × LS → Option β) → Option β) → Nat → LS → (Nat × LS → Option β) → Option β
  | [], true, d, id, s, k => canK (lv f (1000000 + id)) s.st fun s => d id s k
  | [], false, d, id, s, k => canK (lv f (2 * id)) s.st fun s => d id s k
  | e :: es, g, d, id, s, k => bif bEq g e.g && id == e.id then e.run β s k else lookLC β f nt es g d id s k
noncomputable def lookHCK {X : FuncId → List V → Option (V × List B)} (β : Type) : List (HEnt Try.prog lv X) → (FuncId → LS → (V × St → Option β) → Option β) → FuncId → LS → (V × St → Option β) → Option β
  | [], d, f, s, k => d f s k
  | e :: es, d, f, s, k => bif f == e.f && nlB e.key (keyLS s) then e.run β s k else lookHCK β es d f s k
noncomputable def lookHCE {X : FuncId → List V → Option (V × List B)} (β : Type) (hs : List (HEnt Try.prog lv X)) (d : FuncId → LS → (V × St → Option β) → Option β) (f : FuncId) (a : List V) (s : St) (k : V × St → Option β) : Option β :=
  (bodyOf Try.prog f).bind fun fn => if a.length ≤ fn.ntmps then canK (List.range a.length) (hst a s) fun ls => lookHCK β hs d f ls k else none
noncomputable def lookHC {X : FuncId → List V → Option (V × List B)} (β : Type) (hs : List (HEnt Try.prog lv X)) (d : FuncId → LS → (V × St → Option β) → Option β) (f : FuncId) : Option (List V → St → (V × St → Option β) → Option β) := bif !(lv f 2000000).isEmpty then some (lookHCE β hs d f) else none
/-- all pieces that may be cut -/
def segsIn : Code → List Code
  | .loop c => segsIn c
  | .seq a b => b :: segsIn a ++ segsIn b
  | .cond _ a b => segsIn a ++ segsIn b
  | .block _ c => segsIn c
  | _ => []
def getSeg (c : Code) (id : Nat) : Code := ((segsIn c).find? fun l => match fstRegion l with | some i => i == id | none => false).getD .skip
end Go.Proofs.Ytokahibbkdbndaa
