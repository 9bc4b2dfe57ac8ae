/- The machine in continuation style: regions, code, functions. -/
import Derived.Test.YtokahibbkdbndaaE3
namespace Go.Proofs.Ytokahibbkdbndaa
open Go.RowKit
section
variable (P : Program) {β : Type}
def stE (callE : HE β) (nt : Nat) (ops : Array Oper) (an : Nat → Nat) (rb j : Nat) (o : Oper) (s : St) (k : St → Option β) : Option β :=
  if (logOk ops.size an s.lw j (ldAdr (rho s.t) o.op) && logOk ops.size an s.lr j (stAdr callE.io s.h (rho s.t) o.op)) = true then
    opE P callE nt ops (visB s.h rb (an j)) (rb + 8 * j) o s fun s' => k { s' with lr := upd s.lr j (ldAdr (rho s.t) o.op), lw := upd s.lw j (stAdr callE.io s.h (rho s.t) o.op) }
  else none
def runE (callE : HE β) (nt : Nat) (ops : Array Oper) (an : Nat → Nat) (rb : Nat) : List Oper → Nat → St → (St → Option β) → Option β
  | [], _, s, k => k s
  | o :: os, j, s, k => stE P callE nt ops an rb j o s fun s => runE callE nt ops an rb os (j + 1) s k
def runNE (callE : FuncId → List V → (V × List B → Option β) → Option β) (chE : FuncId → Option (List V → St → (V × St → Option β) → Option β)) (lv : Nat → List Nat) (nt : Nat) (ops : Array Oper) : List Oper → Nat → Nat → St → (St → Option β) → Option β
  | [], _, base, s, k => k { s with nx := base }
  | o :: os, j, base, s, k => match ioE P chE (rho s.t) o.op with
    | some (_, g, args) => if (o.dst.all (fun d => decide (d < nt))) = true then (wantedV ops s.t o).bind fun w => if w then
          heapE g args base (lv j) base s fun x => runNE callE chE lv nt ops os (j + 1) (base + 8) { s with t := putD s.t o.dst x.1, h := x.2.1, sh := x.2.2 } k
        else runNE callE chE lv nt ops os (j + 1) (base + 8) { s with t := putD s.t o.dst (.tup []) } k
      else none
    | none => opE P (he0 callE) nt ops s.h base o s fun s => runNE callE chE lv nt ops os (j + 1) (base + 8) s k
variable {call : FuncId → List V → Option (V × List B)} {callE : FuncId → List V → (V × List B → Option β) → Option β}
theorem stE_ok {call : FuncId → List V → Option (V × List B)} {callE : FuncId → List V → (V × List B → Option β) → Option β} (hc : ∀ f a k r, callE f a k = some r → (call f a).bind k = some r) {ch : FuncId → Option (List V → St → Option (V × St))} {chE : FuncId → Option (List V → St → (V × St → Option β) → Option β)} (hk : KE ch chE) {io : FuncId → Bool} {lvf : Nat → List Nat} {N : Nat} {nt : Nat} {ops : Array Oper} {an : Nat → Nat} {rb j : Nat} {o : Oper} {s : St} {k : St → Option β} {x : β} (h : stE P ⟨callE, io, chE, lvf, N⟩ nt ops an rb j o s k = some x) : (stepD P ⟨call, io, ch, lvf, N⟩ nt ops an rb j o s).bind k = some x := by
  unfold stE at h
  unfold stepD
  split at h
  · rename_i h1
    rw [if_pos h1]
    have h2 := opE_ok P hc hk h
    cases a : opD P ⟨call, io, ch, lvf, N⟩ nt ops (visB s.h rb (an j)) (rb + 8 * j) o s with
    | none => rw [a] at h2; cases h2
    | some v => rw [a] at h2; exact h2
  · cases h
theorem runE_ok {call : FuncId → List V → Option (V × List B)} {callE : FuncId → List V → (V × List B → Option β) → Option β} (hc : ∀ f a k r, callE f a k = some r → (call f a).bind k = some r) {ch : FuncId → Option (List V → St → Option (V × St))} {chE : FuncId → Option (List V → St → (V × St → Option β) → Option β)} (hk : KE ch chE) {io : FuncId → Bool} {lvf : Nat → List Nat} {N : Nat} {nt : Nat} {ops : Array Oper} {an : Nat → Nat} {rb : Nat} : ∀ (os : List Oper) (j : Nat) (s : St) (k : St → Option β) (x : β), ops.toList.drop j = os → runE P ⟨callE, io, chE, lvf, N⟩ nt ops an rb os j s k = some x → (runD P ⟨call, io, ch, lvf, N⟩ nt ops an rb (List.range' j os.length) s).bind k = some x
  | [], _, s, k, x, _, h => h
  | o :: os, j, s, k, x, ho, h => by
    have hj : ops[j]? = some o := by
      have : (ops.toList.drop j)[0]? = some o := by rw [ho]; rfl
      rw [List.getElem?_drop] at this
      simpa using this
    have hd : ops.toList.drop (j + 1) = os := by
      rw [← List.tail_drop, ho]; rfl
    rw [runE] at h
    have h1 := stE_ok P hc hk h
    rw [List.length_cons, List.range'_succ, runD, hj]
    simp only [Option.bind_some]
    cases a : stepD P ⟨call, io, ch, lvf, N⟩ nt ops an rb j o s with
    | none => rw [a] at h1; cases h1
    | some s1 =>
      rw [a] at h1
      exact runE_ok hc hk os (j + 1) s1 k x hd h1
variable (hc : ∀ f a k r, callE f a k = some r → (call f a).bind k = some r)
include hc
theorem runNE_ok {ch : FuncId → Option (List V → St → Option (V × St))} {chE : FuncId → Option (List V → St → (V × St → Option β) → Option β)} (hk : KE ch chE) {lv : Nat → List Nat} {nt : Nat} {ops : Array Oper} : ∀ (os : List Oper) (j b : Nat) (s : St) (k : St → Option β) (x : β), runNE P callE chE lv nt ops os j b s k = some x → (runN P call ch lv nt ops os j b s).bind k = some x
  | [], _, _, s, k, x, h => h
  | o :: os, j, b, s, k, x, h => by
    rw [runNE] at h
    rw [runN]
    rcases ioE_ok P hk (rho s.t) o.op with ⟨h1, h2⟩ | ⟨f, g, gE, args, h1, h2, h3⟩
    · simp only [h1, h2] at h ⊢
      have h1 : (opD P (hp0 call) nt ops s.h b o s).bind (fun s => runNE P callE chE lv nt ops os (j + 1) (b + 8) s k) = some x := opE_ok P hc (KE.no) h
      cases a : opD P (hp0 call) nt ops s.h b o s with
      | none => rw [a] at h1; cases h1
      | some s1 =>
        rw [a] at h1
        exact runNE_ok hk os (j + 1) (b + 8) s1 k x h1
    · simp only [h1, h2] at h ⊢
      split at h
      case isFalse => cases h
      rename_i hd
      simp only [hd, if_true]
      cases hw : wantedV ops s.t o with
      | none => rw [hw] at h; cases h
      | some q =>
        rw [hw] at h
        simp only [Option.bind_some] at h ⊢
        cases q with
        | false => exact runNE_ok hk os (j + 1) (b + 8) _ k x h
        | true =>
          simp only [if_true] at h ⊢
          have e2 := heapE_ok h3 h
          cases hy : heapD g args b (lv j) b s with
          | none => rw [hy] at e2; cases e2
          | some y =>
            rw [hy] at e2
            simp only [Option.bind_some] at e2 ⊢
            exact runNE_ok hk os _ _ _ k x e2
end

section
variable {β : Type}
def forceT (l : List (Nat × V)) (k : List (Nat × V) → Option β) : Option β := match l with
  | [] => k []
  | (i, v) :: l => forceV v fun v => forceT l fun l => k ((i, v) :: l)
theorem forceT_eq : ∀ (l : List (Nat × V)) (k : List (Nat × V) → Option β), forceT l k = k l
  | [], _ => rfl
  | (i, v) :: l, k => by rw [forceT, forceV_eq, forceT_eq]
def forceOB (x : Option B) (k : Option B → Option β) : Option β := match x with
  | none => k none
  | some b => forceB b fun b => k (some b)
theorem forceOB_eq (x : Option B) (k : Option B → Option β) : forceOB x k = k x := by cases x <;> simp only [forceOB, forceB_eq]
def forceH (l : List (Option B)) (k : List (Option B) → Option β) : Option β := match l with
  | [] => k []
  | x :: l => forceOB x fun x => forceH l fun l => k (x :: l)
theorem forceH_eq : ∀ (l : List (Option B)) (k : List (Option B) → Option β), forceH l k = k l
  | [], _ => rfl
  | x :: l, k => by rw [forceH, forceOB_eq, forceH_eq]
def forceS (l : List Bool) (k : List Bool → Option β) : Option β := match l with
  | [] => k []
  | true :: l => forceS l fun l => k (true :: l)
  | false :: l => forceS l fun l => k (false :: l)
theorem forceS_eq : ∀ (l : List Bool) (k : List Bool → Option β), forceS l k = k l
  | [], _ => rfl
  | true :: l, k => by rw [forceS, forceS_eq]
  | false :: l, k => by rw [forceS, forceS_eq]
def forceNs (l : List Nat) (k : List Nat → Option β) : Option β := match l with
  | [] => k []
  | x :: l => forceNs l fun l => k (x :: l)
theorem forceNs_eq : ∀ (l : List Nat) (k : List Nat → Option β), forceNs l k = k l
  | [], _ => rfl
  | x :: l, k => by rw [forceNs, forceNs_eq]
/-- the state behind a region -/
def canE (live : List Nat) (s : St) (k : St → Option β) : Option β :=
  forceNs (canL live s) fun l => forceT (canT live s (fun id => pos id l)) fun t => forceH (l.map fun id => (nilH s.nx s.h id).map (B.renO (fun id => pos id l))) fun h => forceS (l.map (nilSh s.nx s.sh)) fun sh => forceNs (canO s (fun id => pos id l)) fun og => k (mkS t h sh og)
theorem canE_eq (live : List Nat) (s : St) (k : St → Option β) : canE live s k = k (canon live s) := by
  unfold canE
  rw [forceNs_eq, forceT_eq, forceH_eq, forceS_eq, forceNs_eq, ← canon_mk]
end
end Go.Proofs.Ytokahibbkdbndaa
