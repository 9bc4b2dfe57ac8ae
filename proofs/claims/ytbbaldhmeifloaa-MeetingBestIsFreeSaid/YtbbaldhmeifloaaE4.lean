/- The machine in continuation style: regions, code, functions. -/
import Derived.Test.YtbbaldhmeifloaaE3
namespace Go.Proofs.Ytbbaldhmeifloaa
open Go.RowKit
section
variable (P : Program) {β : Type}
def stE (callE : FuncId → List V → (V × List B → Option β) → Option β) (nt : Nat) (ops : Array Oper) (an : Nat → Nat) (rb j : Nat) (o : Oper) (s : St) (k : St → Option β) : Option β :=
  if (logOk ops.size an s.lw j (ldAdr (rho s.t) o.op) && logOk ops.size an s.lr j (stAdr (rho s.t) o.op)) = true then
    opE P callE nt ops (visB s.h rb (an j)) (rb + 8 * j) o s fun s' => k { s' with lr := upd s.lr j (ldAdr (rho s.t) o.op), lw := upd s.lw j (stAdr (rho s.t) o.op) }
  else none
def runE (callE : FuncId → List V → (V × List B → Option β) → Option β) (nt : Nat) (ops : Array Oper) (an : Nat → Nat) (rb : Nat) : List Oper → Nat → St → (St → Option β) → Option β
  | [], _, s, k => k s
  | o :: os, j, s, k => stE P callE nt ops an rb j o s fun s => runE callE nt ops an rb os (j + 1) s k
def ioE (chE : FuncId → Option (List V → St → (V × St → Option β) → Option β)) (r : Operand → V) : Op → Option (FuncId × (List V → St → (V × St → Option β) → Option β) × List V)
  | .call { callee := .value f, args, .. } => match r f with
    | .fn g caps => (bodyOf P g).bind fun _ => (chE g).map fun h => (g, h, args.toList.map r ++ caps)
    | _ => none
  | _ => none
def runNE (callE : FuncId → List V → (V × List B → Option β) → Option β) (chE : FuncId → Option (List V → St → (V × St → Option β) → Option β)) (nt : Nat) (ops : Array Oper) : List Oper → Nat → St → (St → Option β) → Option β
  | [], base, s, k => k { s with nx := base }
  | o :: os, base, s, k => match ioE P chE (rho s.t) o.op with
    | some (_, g, args) => if (o.dst.all (fun d => decide (d < nt))) = true then (wantedV ops s.t o).bind fun w => if w then
          g args { s with nx := base, og := idsAll nt s } fun x => if x.2.og.length = (idsAll nt s).length then runNE callE chE nt ops os x.2.nx (backS nt s o.dst x.1 x.2) k else none
        else runNE callE chE nt ops os (base + 8) { s with t := putD s.t o.dst (.tup []) } k
      else none
    | none => opE P callE nt ops s.h base o s fun s => runNE callE chE nt ops os (base + 8) s k
/-- heap functions in continuation style -/
def KE (ch : FuncId → Option (List V → St → Option (V × St))) (chE : FuncId → Option (List V → St → (V × St → Option β) → Option β)) : Prop :=
  ∀ f, (ch f = none ∧ chE f = none) ∨ ∃ (g : List V → St → Option (V × St)) (gE : List V → St → (V × St → Option β) → Option β), ch f = some g ∧ chE f = some gE ∧ ∀ args s k r, gE args s k = some r → ∃ x, g args s = some x ∧ k x = some r
theorem ioE_ok {ch : FuncId → Option (List V → St → Option (V × St))} {chE : FuncId → Option (List V → St → (V × St → Option β) → Option β)} (hk : KE ch chE) (r : Operand → V) (o : Op) :
    (ioOf P ch r o = none ∧ ioE P chE r o = none) ∨ ∃ (f : FuncId) (g : List V → St → Option (V × St)) (gE : List V → St → (V × St → Option β) → Option β) (args : List V), ioOf P ch r o = some (f, g, args) ∧ ioE P chE r o = some (f, gE, args) ∧ ∀ args s k r, gE args s k = some r → ∃ x, g args s = some x ∧ k x = some r := by
  by_cases h : ∃ f args ats, o = .call { callee := .value f, args := args, argTypes := ats }
  · obtain ⟨f, args, ats, rfl⟩ := h
    simp only [ioOf, ioE]
    generalize r f = v
    cases v with
    | fn g caps =>
      simp only
      cases bodyOf P g with
      | none => exact .inl ⟨rfl, rfl⟩
      | some fn =>
        simp only [Option.bind_some]
        rcases hk g with ⟨h1, h2⟩ | ⟨g', gE, h1, h2, h3⟩
        · exact .inl ⟨by rw [h1]; rfl, by rw [h2]; rfl⟩
        · exact .inr ⟨g, g', gE, _, by rw [h1]; rfl, by rw [h2]; rfl, h3⟩
    | _ => exact .inl ⟨rfl, rfl⟩
  · refine .inl ⟨?_, ?_⟩
    · unfold ioOf; split; (exact absurd ⟨_, _, _, rfl⟩ h); rfl
    · unfold ioE; split; (exact absurd ⟨_, _, _, rfl⟩ h); rfl

variable {call : FuncId → List V → Option (V × List B)} {callE : FuncId → List V → (V × List B → Option β) → Option β} (hc : ∀ f a k r, callE f a k = some r → (call f a).bind k = some r)
include hc
theorem stE_ok {nt : Nat} {ops : Array Oper} {an : Nat → Nat} {rb j : Nat} {o : Oper} {s : St} {k : St → Option β} {x : β} (h : stE P callE nt ops an rb j o s k = some x) : (stepD P call nt ops an rb j o s).bind k = some x := by
  unfold stE at h
  unfold stepD
  split at h
  · rename_i h1
    rw [if_pos h1]
    have h2 := opE_ok P hc h
    cases a : opD P call nt ops (visB s.h rb (an j)) (rb + 8 * j) o s with
    | none => rw [a] at h2; cases h2
    | some v => rw [a] at h2; exact h2
  · cases h
theorem runE_ok {nt : Nat} {ops : Array Oper} {an : Nat → Nat} {rb : Nat} : ∀ (os : List Oper) (j : Nat) (s : St) (k : St → Option β) (x : β), ops.toList.drop j = os → runE P callE nt ops an rb os j s k = some x → (runD P call nt ops an rb (List.range' j os.length) s).bind k = some x
  | [], _, s, k, x, _, h => h
  | o :: os, j, s, k, x, ho, h => by
    have hj : ops[j]? = some o := by
      have : (ops.toList.drop j)[0]? = some o := by rw [ho]; rfl
      rw [List.getElem?_drop] at this
      simpa using this
    have hd : ops.toList.drop (j + 1) = os := by
      rw [← List.tail_drop, ho]; rfl
    rw [runE] at h
    have h1 := stE_ok P hc h
    rw [List.length_cons, List.range'_succ, runD, hj]
    simp only [Option.bind_some]
    cases a : stepD P call nt ops an rb j o s with
    | none => rw [a] at h1; cases h1
    | some s1 =>
      rw [a] at h1
      exact runE_ok os (j + 1) s1 k x hd h1
theorem runNE_ok {ch : FuncId → Option (List V → St → Option (V × St))} {chE : FuncId → Option (List V → St → (V × St → Option β) → Option β)} (hk : KE ch chE) {nt : Nat} {ops : Array Oper} : ∀ (os : List Oper) (b : Nat) (s : St) (k : St → Option β) (x : β), runNE P callE chE nt ops os b s k = some x → (runN P call ch nt ops os b s).bind k = some x
  | [], _, s, k, x, h => h
  | o :: os, b, s, k, x, h => by
    rw [runNE] at h
    rw [runN]
    rcases ioE_ok P hk (rho s.t) o.op with ⟨h1, h2⟩ | ⟨f, g, gE, args, h1, h2, h3⟩
    · simp only [h1, h2] at h ⊢
      have h1 := opE_ok P hc h
      cases a : opD P call nt ops s.h b o s with
      | none => rw [a] at h1; cases h1
      | some s1 =>
        rw [a] at h1
        exact runNE_ok hk os (b + 8) s1 k x h1
    · simp only [h1, h2] at h ⊢
      split at h
      case isFalse => cases h
      rename_i hd
      simp only [hd, if_true]
      cases hw : wantedV ops s.t o with
      | none => rw [hw] at h; cases h
      | some q =>
        rw [hw] at h
        simp only [Option.bind_some] at h ⊢
        cases q with
        | false => exact runNE_ok hk os (b + 8) _ k x h
        | true =>
          simp only [if_true] at h ⊢
          obtain ⟨y, e1, e2⟩ := h3 _ _ _ _ h
          rw [e1]
          simp only [Option.bind_some]
          split at e2
          case isFalse => cases e2
          rename_i hl
          simp only [hl, if_true]
          exact runNE_ok hk os _ _ k x e2
end

section
variable {β : Type}
def forceT (l : List (Nat × V)) (k : List (Nat × V) → Option β) : Option β := match l with
  | [] => k []
  | (i, v) :: l => forceV v fun v => forceT l fun l => k ((i, v) :: l)
theorem forceT_eq : ∀ (l : List (Nat × V)) (k : List (Nat × V) → Option β), forceT l k = k l
  | [], _ => rfl
  | (i, v) :: l, k => by rw [forceT, forceV_eq, forceT_eq]
def forceOB (x : Option B) (k : Option B → Option β) : Option β := match x with
  | none => k none
  | some b => forceB b fun b => k (some b)
theorem forceOB_eq (x : Option B) (k : Option B → Option β) : forceOB x k = k x := by cases x <;> simp only [forceOB, forceB_eq]
def forceH (l : List (Option B)) (k : List (Option B) → Option β) : Option β := match l with
  | [] => k []
  | x :: l => forceOB x fun x => forceH l fun l => k (x :: l)
theorem forceH_eq : ∀ (l : List (Option B)) (k : List (Option B) → Option β), forceH l k = k l
  | [], _ => rfl
  | x :: l, k => by rw [forceH, forceOB_eq, forceH_eq]
def forceS (l : List Bool) (k : List Bool → Option β) : Option β := match l with
  | [] => k []
  | true :: l => forceS l fun l => k (true :: l)
  | false :: l => forceS l fun l => k (false :: l)
theorem forceS_eq : ∀ (l : List Bool) (k : List Bool → Option β), forceS l k = k l
  | [], _ => rfl
  | true :: l, k => by rw [forceS, forceS_eq]
  | false :: l, k => by rw [forceS, forceS_eq]
def forceNs (l : List Nat) (k : List Nat → Option β) : Option β := match l with
  | [] => k []
  | x :: l => forceNs l fun l => k (x :: l)
theorem forceNs_eq : ∀ (l : List Nat) (k : List Nat → Option β), forceNs l k = k l
  | [], _ => rfl
  | x :: l, k => by rw [forceNs, forceNs_eq]
/-- the state behind a region -/
def canE (live : List Nat) (s : St) (k : St → Option β) : Option β :=
  forceNs (canL live s) fun l => forceT (canT live s (fun id => pos id l)) fun t => forceH (l.map fun id => (nilH s.nx s.h id).map (B.renO (fun id => pos id l))) fun h => forceS (l.map (nilSh s.nx s.sh)) fun sh => forceNs (canO s (fun id => pos id l)) fun og => k (mkS t h sh og)
theorem canE_eq (live : List Nat) (s : St) (k : St → Option β) : canE live s k = k (canon live s) := by
  unfold canE
  rw [forceNs_eq, forceT_eq, forceH_eq, forceS_eq, forceNs_eq, ← canon_mk]
end
end Go.Proofs.Ytbbaldhmeifloaa
