/- How a function's answer is reckoned. -/
import Derived.Test.YtokahibbkdbndaaDFix
namespace Go.Proofs.Ytokahibbkdbndaa
open Go.RowKit
section
variable (P : Program)
def st0 (args : List V) : St := { t := fun i => args.getD i .any, h := fun _ => none, sh := fun _ => false, nx := 0, lr := fun _ => [], lw := fun _ => [], og := [] }
/-- the end of a function -/
def endF (q : Bool) (fn : Func) (x : Nat × St) : Option (V × List B) := if x.1 ≤ 1 then (resV P fn x.2).bind fun vs => (finQ q x.2 vs).bind fun y => if okRes y.1 then some y else none else none
end
section
variable (P : Program)
def byO (t : TypeId) : Option Nat := (P.info? t).map (·.bytes)
def zOk (t : TypeId) : Bool := match P.info? t with | some i => decide (i.zero.map (fun z => z.cells.size) = some i.size) | none => false
variable {P}
/-- append, with the numbers of the element's type -/
theorem apdV_eq {h : Nat → Option B} {sh : Nat → Bool} {base : Nat} {e : TypeId} {s x : V} {k b : Nat} (hk : szO P e = some k) (hb : byO P e = some b) (hz : zOk P e = true) : apdV P h sh base e s x = if 0 < k then (frzC h x).bind fun y => match y.1 with
    | .sl xs => (tgtV h s xs.isEmpty).bind fun g =>
      if (xs.all (fun el => el.length == k) && g.1.all (fun el => el.length == k)) = true ∧ ((g.2.1 + xs.length) + (g.2.1 + xs.length) / 4 + 192) * b ≤ 281474976710656 ∧ g.2.1 + xs.length ≤ 9223372036854775807 ∧ g.2.2.all (fun id => !y.2.contains id) = true then
        some (.row base (g.2.1 + xs.length), upd (dropO h g.2.2) base (some (.row (g.1 ++ xs))), upd (fun j => if j ∈ y.2 then true else sh j) base ((g.2.2.map sh).getD false))
      else none
    | _ => none else none := by
  unfold szO byO zOk at *
  unfold apdV
  cases hi : P.info? e with
  | none => rw [hi] at hk; cases hk
  | some i =>
    rw [hi] at hk hb hz
    injection hk with hk; injection hb with hb
    simp only [decide_eq_true_eq] at hz
    subst hk hb
    simp only [Option.bind_some, hz, and_true]
    rfl
end
section
variable {P : Program} {live : FuncId → Nat → List Nat} {X : FuncId → List V → Option (V × List B)}
theorem Call_of {f : FuncId} {args : List V} {fn : Func} {c : Code} {x : Nat × St} {r : V × List B} (hX : X f args = none) (hf : P.funcs[f]? = some fn) (hb : fn.body = some c) (hn : (fn.name == "runtime.NumGoroutine") = false) (ha : args.length ≤ fn.ntmps)
    (hs : stepC P (live f) (CallT P live X) fn.ntmps (Exec P live X f fn.ntmps) c (st0 args) = some x) (he : endF P (fzL live f) fn x = some r) : Call P live X f args = some r := by
  unfold Call callD
  rw [hX]
  have hbo : bodyOf P f = some fn := by simp [bodyOf, hf, hb]; simpa using hn
  simp only [hbo, Option.bind_some, ha, if_true, hb]
  have := Exec_step P live X hs
  unfold st0 at this
  rw [this]
  exact he
/-- with some fuel: for closed calls -/
theorem Call_fuel {n : Nat} {f : FuncId} {args : List V} {r : V × List B} (h : callD P (fzL live) X (execD P live X n) f args = some r) : Call P live X f args = some r := by
  obtain ⟨N, hN⟩ := callD_app (P := P) (X := X) (en := fun _ => Exec P live X) (e0 := execD P live X n) (fun f nt c s r h => Ult.const (Exec_of P live X h)) h
  exact hN N (Nat.le_refl _)
/-- the whole function at once -/
theorem Call_ev {f : FuncId} {args : List V} {fn : Func} {c : Code} {r : V × List B} (hf : P.funcs[f]? = some fn) (hb : fn.body = some c) (hn : (fn.name == "runtime.NumGoroutine") = false) (hX : X f args = none) (ha : decide (args.length ≤ fn.ntmps) = true)
    (hs : (stepC P (live f) (CallT P live X) fn.ntmps (Exec P live X f fn.ntmps) c (st0 args)).bind (endF P (fzL live f) fn) = some r) : Call P live X f args = some r := by
  cases hx : stepC P (live f) (CallT P live X) fn.ntmps (Exec P live X f fn.ntmps) c (st0 args) with
  | none => rw [hx] at hs; cases hs
  | some x => rw [hx] at hs; exact Call_of hX hf hb hn (by simpa using ha) hx hs
end
/-- a region that draws its order -/
theorem stepC_draw {P : Program} {live : Nat → List Nat} {call : CT} {nt : Nat} {again : Code → St → Option (Nat × St)} {id : Nat} {ops : Array Oper} {s : St} (h : drawOk P call.io (fun j => live (3000000 + 1000 * id + j)) ops = true) :
    stepC P live call nt again (.region id ops true) s = (runD P ⟨call.call, call.io, call.ch, lvD call.io (fun j => live (3000000 + 1000 * id + j)) ops s.nx, s.nx + 8 * ops.size⟩ nt ops (anOf ops) s.nx (List.range ops.size) { s with lr := fun _ => [], lw := fun _ => [] }).map fun s' => (0, canon (live (2 * id + 1)) { s' with nx := s.nx + 8 * ops.size }) := by
  simp only [stepC, h, if_true]
theorem stepC_plain {P : Program} {live : Nat → List Nat} {call : CT} {nt : Nat} {again : Code → St → Option (Nat × St)} {id : Nat} {ops : Array Oper} {s : St} :
    stepC P live call nt again (.region id ops false) s = (runN P call.call call.ch (fun j => live (3000000 + 1000 * id + j)) nt ops ops.toList 0 s.nx s).map fun s' => (0, canon (live (2 * id + 1)) s') := rfl
theorem stepC_skip {P : Program} {live : Nat → List Nat} {call : CT} {nt : Nat} {again : Code → St → Option (Nat × St)} {s : St} : stepC P live call nt again .skip s = some (0, s) := rfl
theorem stepC_seq {P : Program} {live : Nat → List Nat} {call : CT} {nt : Nat} {again : Code → St → Option (Nat × St)} {a b : Code} {s : St} : stepC P live call nt again (.seq a b) s = (stepC P live call nt again a s).bind fun x => if x.1 = 0 then stepC P live call nt again b (cutS live b x.2) else some x := rfl
theorem stepC_cond {P : Program} {live : Nat → List Nat} {call : CT} {nt : Nat} {again : Code → St → Option (Nat × St)} {c : Operand} {a b : Code} {s : St} {q : Bool} (h : rho s.t c = .c (.bool q)) : stepC P live call nt again (.cond c a b) s = if q then stepC P live call nt again a s else stepC P live call nt again b s := by simp only [stepC, h]
theorem stepC_block {P : Program} {live : Nat → List Nat} {call : CT} {nt : Nat} {again : Code → St → Option (Nat × St)} {id : Nat} {c : Code} {s : St} : stepC P live call nt again (.block id c) s = (stepC P live call nt again c s).bind fun x => some (if x.1 = id + 2 then (0, x.2) else x) := by simp only [stepC]; cases stepC P live call nt again c s <;> rfl
theorem stepC_loop {P : Program} {live : Nat → List Nat} {call : CT} {nt : Nat} {again : Code → St → Option (Nat × St)} {c : Code} {s : St} : stepC P live call nt again (.loop c) s = (stepC P live call nt again c (canon (((fstRegion c).map fun id => live (2 * id)).getD []) s)).bind fun x => if x.1 = 0 then again (.loop c) x.2 else some x := rfl
theorem stepC_exit {P : Program} {live : Nat → List Nat} {call : CT} {nt : Nat} {again : Code → St → Option (Nat × St)} {id : Nat} {s : St} : stepC P live call nt again (.exit id) s = some (id + 2, s) := rfl
theorem stepC_ret {P : Program} {live : Nat → List Nat} {call : CT} {nt : Nat} {again : Code → St → Option (Nat × St)} {s : St} : stepC P live call nt again .ret s = some (1, s) := rfl
end Go.Proofs.Ytokahibbkdbndaa
