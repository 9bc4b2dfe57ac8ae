/- The machine in continuation style: stores, appends, one operation, regions. -/
import Derived.Test.YtokahibbkdbndaaE2
namespace Go.Proofs.Ytokahibbkdbndaa
open Go.RowKit
section
variable {β : Type}
def forceNat (n : Nat) (k : Nat → Option β) : Option β := match n with
  | 0 => k 0
  | m + 1 => k (m + 1)
theorem forceNat_eq (n : Nat) (k : Nat → Option β) : forceNat n k = k n := by cases n <;> rfl
def forceNL (l : List Nat) (k : List Nat → Option β) : Option β := match l with
  | [] => k []
  | x :: l => forceNat x fun x => forceNL l fun l => k (x :: l)
theorem forceNL_eq : ∀ (l : List Nat) (k : List Nat → Option β), forceNL l k = k l
  | [], _ => rfl
  | x :: l, k => by rw [forceNL, forceNat_eq, forceNL_eq]
end
section
variable (P : Program) {β : Type}
def storeTE (h : Nat → Option B) (sh : Nat → Bool) (id i : Nat) (x : V) (k : (Nat → Option B) × (Nat → Bool) → Option β) : Option β :=
  match h id with
  | some (.row es) => if sh id then none else gdE (decide (i < es.length) && es.all (fun e => e.length == 1)) (k (upd h id (some (.tab es i x)), sh))
  | some (.tab es q v) => gdE (decide (i < es.length)) (brE (decide (q < es.length)) ((frzC h v).bind fun y => if y.2.contains id then none else k (upd h id (some (.tab (es.set q [y.1]) i x)), fun j => if j ∈ y.2 then true else sh j)) (k (upd h id (some (.tab es i x)), sh)))
  | _ => none
theorem storeTE_ok {h : Nat → Option B} {sh : Nat → Bool} {id i : Nat} {x : V} {k : (Nat → Option B) × (Nat → Bool) → Option β} {r : β} (hh : storeTE h sh id i x k = some r) : (storeT h sh id i x).bind k = some r := by
  unfold storeTE at hh
  unfold storeT
  split at hh
  · rename_i es e
    simp only [e]
    split at hh
    · cases hh
    · rename_i hs
      obtain ⟨h0, hh⟩ := gdE_some hh
      simp only [Bool.and_eq_true, decide_eq_true_eq] at h0
      rw [if_pos ⟨by simpa using hs, h0.1, h0.2⟩]
      exact hh
  · rename_i es q v e
    simp only [e]
    obtain ⟨h0, hh⟩ := gdE_some hh
    simp only [decide_eq_true_eq] at h0
    rw [if_pos h0]
    by_cases hq : q < es.length
    case neg =>
      simp only [hq, decide_false, brE] at hh
      simp only [hq, if_false, Option.bind_some]
      exact hh
    simp only [hq, decide_true, brE] at hh
    simp only [hq, if_true]
    cases hf : frzC h v with
    | none => rw [hf] at hh; cases hh
    | some y =>
      rw [hf] at hh
      simp only [Option.bind_some] at hh ⊢
      split at hh
      · cases hh
      · rename_i h1; rw [if_neg h1]; exact hh
  · cases hh
def storeE (h : Nat → Option B) (sh : Nat → Bool) (t : TypeId) (a x : V) (k : (Nat → Option B) × (Nat → Bool) → Option β) : Option β :=
  match a with
  | .rptr id z i off => x.cells.bind fun vs => if szO P t ≠ some vs.length then none else
    if z = 1 ∧ off = 0 ∧ isRowV x = true then storeTE h sh id i x k else
    match h id with
    | some (.row es) => if sh id then none else gdE (decide (i < es.length) && (es.getD i []).length == z) (if off + vs.length ≤ z then
        (frzL h vs).bind fun y => forceCs y.1 fun yl => if y.2.contains id then none else k (upd h id (some (.row (es.set i (splice (es.getD i []) off yl)))), fun j => if j ∈ y.2 then true else sh j) else none)
    | _ => none
  | a => (storeV P h sh t a x).bind k
theorem storeE_ok {h : Nat → Option B} {sh : Nat → Bool} {t : TypeId} {a x : V} {k : (Nat → Option B) × (Nat → Bool) → Option β} {r : β} (hh : storeE P h sh t a x k = some r) : (storeV P h sh t a x).bind k = some r := by
  unfold storeE at hh
  split at hh
  · unfold storeV
    cases a1 : x.cells with
    | none => rw [a1] at hh; cases hh
    | some vs =>
      rw [a1] at hh
      simp only [Option.bind_some] at hh ⊢
      split at hh
      · cases hh
      · rename_i h1
        rw [if_neg h1]
        split at hh
        · rename_i h2
          simp only [if_pos h2]
          exact storeTE_ok hh
        rename_i hnT
        simp only [if_neg hnT]
        split at hh
        · rename_i es e
          simp only [e]
          split at hh
          · cases hh
          · rename_i h2
            rw [if_neg h2]
            obtain ⟨h0, hh⟩ := gdE_some hh
            simp only [Bool.and_eq_true, decide_eq_true_eq, beq_iff_eq] at h0
            rw [getD_at (d := []) h0.1]
            simp only [Option.bind_some]
            split at hh
            · rename_i h3
              rw [if_pos ⟨h0.2, by rw [h0.2]; exact h3⟩]
              cases a2 : frzL h vs with
              | none => rw [a2] at hh; cases hh
              | some y =>
                rw [a2] at hh
                simp only [Option.bind_some, forceCs_eq] at hh ⊢
                split at hh
                · cases hh
                · rename_i h4
                  rw [if_neg h4]
                  exact hh
            · cases hh
        · cases hh
  · exact hh

/-- what is appended to -/
def tgE (h : Nat → Option B) (s : V) (xs : List (List C)) (k : List (List C) × Nat × Option Nat → Option β) : Option β := (tgtV h s true).bind k
theorem tgE_ok {h : Nat → Option B} {s : V} {xs : List (List C)} {k : List (List C) × Nat × Option Nat → Option β} {r : β} (hh : tgE h s xs k = some r) : ∃ g, tgtV h s xs.isEmpty = some g ∧ k g = some r := by
  unfold tgE at hh
  · cases a : tgtV h s true with
    | none => rw [a] at hh; cases hh
    | some g => rw [a] at hh; exact ⟨g, tgtV_any a _, hh⟩
/-- append -/
def apdE (h : Nat → Option B) (sh : Nat → Bool) (base : Nat) (e : TypeId) (s x : V) (k : V × (Nat → Option B) × (Nat → Bool) → Option β) : Option β :=
  (P.info? e).bind fun i => if 0 < i.size ∧ i.zero.map (fun z => z.cells.size) = some i.size then
    (frzC h x).bind fun y => match y.1 with
    | .sl xs => tgE h s xs fun g =>
      if g.2.2.all (fun id => !y.2.contains id) = true then
        gdE ((xs.all (fun el => el.length == i.size) && g.1.all (fun el => el.length == i.size)) && decide (((g.2.1 + xs.length) + (g.2.1 + xs.length) / 4 + 192) * i.bytes ≤ 281474976710656) && decide (g.2.1 + xs.length ≤ 9223372036854775807))
          (k (.row base (g.2.1 + xs.length), upd (dropO h g.2.2) base (some (.row (g.1 ++ xs))), upd (fun j => if j ∈ y.2 then true else sh j) base ((g.2.2.map sh).getD false)))
      else none
    | _ => none
  else none
theorem apdE_ok {h : Nat → Option B} {sh : Nat → Bool} {base : Nat} {e : TypeId} {s x : V} {k : V × (Nat → Option B) × (Nat → Bool) → Option β} {r : β} (hh : apdE P h sh base e s x k = some r) : (apdV P h sh base e s x).bind k = some r := by
  unfold apdE at hh
  unfold apdV
  cases a1 : P.info? e with
  | none => rw [a1] at hh; cases hh
  | some i =>
    rw [a1] at hh
    simp only [Option.bind_some] at hh ⊢
    split at hh
    · rename_i h1
      rw [if_pos h1]
      cases a2 : frzC h x with
      | none => rw [a2] at hh; cases hh
      | some y =>
        rw [a2] at hh
        simp only [Option.bind_some] at hh ⊢
        split at hh
        · rename_i xs e1
          simp only [e1]
          obtain ⟨g, a3, hh⟩ := tgE_ok hh
          · rw [a3]
            simp only [Option.bind_some] at hh ⊢
            split at hh
            · rename_i h2
              obtain ⟨h0, hh⟩ := gdE_some hh
              rw [Bool.and_eq_true, Bool.and_eq_true, decide_eq_true_eq, decide_eq_true_eq] at h0
              rw [if_pos ⟨h0.1.1, h0.1.2, h0.2, h2⟩]
              exact hh
            · cases hh
        · cases hh
    · cases hh

def ev2E (h : Nat → Option B) (sh : Nat → Bool) (r : Operand → V) (base : Nat) (o : Op) (k : V × (Nat → Option B) × (Nat → Bool) → Option β) : Option β :=
  match o with
  | .store t a x => storeE P h sh t (r a) (r x) fun y => k (.any, y.1, y.2)
  | .call { callee := .builtin .append, args, argTypes } =>
    match argTypes.toList, args.toList with
    | [t, t'], [s, x] => match P.underlying t, P.underlying t' with
      | some (.slice e), some (.slice _) => apdE P h sh base e (r s) (r x) k
      | _, _ => none
    | _, _ => none
  | _ => none
theorem ev2E_ok {h : Nat → Option B} {sh : Nat → Bool} {r : Operand → V} {base : Nat} {o : Op} {k : V × (Nat → Option B) × (Nat → Bool) → Option β} {x : β} (hh : ev2E P h sh r base o k = some x) : (ev2 P h sh r base o).bind k = some x := by
  unfold ev2E at hh
  split at hh
  · have := storeE_ok P hh
    simp only [ev2]
    cases e : storeV P h sh _ (r _) (r _) with
    | none => rw [e] at this; cases this
    | some v => rw [e] at this; exact this
  · unfold ev2
    split at hh
    · rename_i e1 e2
      simp only [e1, e2]
      split at hh
      · rename_i e3 e4
        simp only [e3, e4]
        exact apdE_ok P hh
      · cases hh
    · cases hh
  · cases hh

/-- a slot holds what it holds -/
theorem updV_id {t : Nat → V} {d : Nat} {v : V} (h : t d = v) : upd t d v = t := by
  funext j; unfold upd; split
  · rename_i e; rw [e, h]
  · rfl
/-- is the operation wanted? the test's slot becomes a literal -/
def wantedE (ops : Array Oper) (s : St) (o : Oper) (a b : St → Option β) : Option β :=
  match o.guard with
  | none => a s
  | some (j, want) => match (ops[j]?).bind (·.dst) with
    | some d => match s.t d with
      | .c (.bool q) => brE (q == want) (a { s with t := upd s.t d (.c (.bool want)) }) (b { s with t := upd s.t d (.c (.bool !want)) })
      | .tup _ => b s
      | _ => none
    | none => none
theorem wantedE_ok {ops : Array Oper} {s : St} {o : Oper} {a b : St → Option β} {r : β} (h : wantedE ops s o a b = some r) : (wantedV ops s.t o).bind (fun w => if w then a s else b s) = some r := by
  unfold wantedE at h
  unfold wantedV
  split at h
  · rename_i e
    simp only [e]
    exact h
  · rename_i j want e
    simp only [e]
    split at h
    · rename_i d e0
      simp only [e0, Option.map_some]
      split at h
      · rename_i q e1
        simp only [e1, Option.bind_some]
        by_cases hq : q = want
        · subst hq
          rw [updV_id e1] at h
          simp only [beq_self_eq_true, brE] at h
          simp only [beq_self_eq_true, if_true]
          exact h
        · have e2 : q = !want := by cases q <;> cases want <;> simp_all
          have e3 : (q == want) = false := by simpa using hq
          rw [← e2, updV_id e1, e3] at h
          simp only [e3, Bool.false_eq_true, if_false]
          exact h
      · rename_i e1
        simp only [e1, Option.bind_some]
        exact h
      · cases h
    · cases h

def forceB (x : B) (k : B → Option β) : Option β := match x with
  | .box cs => forceL2 cs fun cs => k (.box cs)
  | .row es => k (.row es)
  | .tab es i v => forceV v fun v => k (.tab es i v)
theorem forceB_eq (x : B) (k : B → Option β) : forceB x k = k x := by cases x <;> simp only [forceB, forceL2_eq, forceV_eq]
def forceBs (l : List B) (k : List B → Option β) : Option β := match l with
  | [] => k []
  | x :: l => forceB x fun x => forceBs l fun l => k (x :: l)
theorem forceBs_eq : ∀ (l : List B) (k : List B → Option β), forceBs l k = k l
  | [], _ => rfl
  | x :: l, k => by rw [forceBs, forceB_eq, forceBs_eq]

def ioE (chE : FuncId → Option (List V → St → (V × St → Option β) → Option β)) (r : Operand → V) : Op → Option (FuncId × (List V → St → (V × St → Option β) → Option β) × List V)
  | .call { callee := .value f, args, .. } => match r f with
    | .fn g caps => (bodyOf P (cFn g)).bind fun _ => (chE (cFn g)).map fun h => (cFn g, h, cAr g (args.toList.map r) caps)
    | _ => none
  | _ => none
/-- heap functions in continuation style -/
def KE (ch : FuncId → Option (List V → St → Option (V × St))) (chE : FuncId → Option (List V → St → (V × St → Option β) → Option β)) : Prop :=
  ∀ f, (ch f = none ∧ chE f = none) ∨ ∃ (g : List V → St → Option (V × St)) (gE : List V → St → (V × St → Option β) → Option β), ch f = some g ∧ chE f = some gE ∧ ∀ args s k r, gE args s k = some r → ∃ x, g args s = some x ∧ k x = some r
theorem ioE_ok {ch : FuncId → Option (List V → St → Option (V × St))} {chE : FuncId → Option (List V → St → (V × St → Option β) → Option β)} (hk : KE ch chE) (r : Operand → V) (o : Op) :
    (ioOf P ch r o = none ∧ ioE P chE r o = none) ∨ ∃ (f : FuncId) (g : List V → St → Option (V × St)) (gE : List V → St → (V × St → Option β) → Option β) (args : List V), ioOf P ch r o = some (f, g, args) ∧ ioE P chE r o = some (f, gE, args) ∧ ∀ args s k r, gE args s k = some r → ∃ x, g args s = some x ∧ k x = some r := by
  by_cases h : ∃ f args ats, o = .call { callee := .value f, args := args, argTypes := ats }
  · obtain ⟨f, args, ats, rfl⟩ := h
    simp only [ioOf, ioE]
    generalize r f = v
    cases v with
    | fn g caps =>
      simp only
      cases bodyOf P (cFn g) with
      | none => exact .inl ⟨rfl, rfl⟩
      | some fn =>
        simp only [Option.bind_some]
        rcases hk (cFn g) with ⟨h1, h2⟩ | ⟨g', gE, h1, h2, h3⟩
        · exact .inl ⟨by rw [h1]; rfl, by rw [h2]; rfl⟩
        · exact .inr ⟨cFn g, g', gE, _, by rw [h1]; rfl, by rw [h2]; rfl, h3⟩
    | _ => exact .inl ⟨rfl, rfl⟩
  · refine .inl ⟨?_, ?_⟩
    · unfold ioOf; split; (exact absurd ⟨_, _, _, rfl⟩ h); rfl
    · unfold ioE; split; (exact absurd ⟨_, _, _, rfl⟩ h); rfl

theorem KE.no : KE (β := β) (fun _ => none) (fun _ => none) := fun _ => .inl ⟨rfl, rfl⟩
/-- a call on the caller's heap -/
def heapE (g : List V → St → (V × St → Option β) → Option β) (args : List V) (N : Nat) (lv : List Nat) (base : Nat) (s : St) (k : V × (Nat → Option B) × (Nat → Bool) → Option β) : Option β :=
  forceNL (reach s.h args) fun K => forceNL (ogK K lv s) fun og =>
    g args { t := fun _ => .any, h := onlyB K s.h, sh := s.sh, nx := N, lr := fun _ => [], lw := fun _ => [], og := og } fun x =>
      if x.2.og.length = og.length ∧ x.2.nx ≤ 8 then k (topO (fun j => some (bkR og base x.2.og j)) x.1, bkH K og base x.2 s.h, bkS K og base x.2 s.sh) else none
theorem heapE_ok {g : List V → St → Option (V × St)} {gE : List V → St → (V × St → Option β) → Option β} (h3 : ∀ args s k r, gE args s k = some r → ∃ x, g args s = some x ∧ k x = some r) {args : List V} {N : Nat} {lv : List Nat} {base : Nat} {s : St} {k : V × (Nat → Option B) × (Nat → Bool) → Option β} {r : β} (h : heapE gE args N lv base s k = some r) : (heapD g args N lv base s).bind k = some r := by
  unfold heapE at h
  rw [forceNL_eq, forceNL_eq] at h
  obtain ⟨x, e1, e2⟩ := h3 _ _ _ _ h
  unfold heapD
  rw [e1]
  simp only [Option.bind_some]
  split at e2
  · rename_i hc
    rw [if_pos hc]
    exact e2
  · cases e2
/-- what calls do -/
structure HE (β : Type) where
  callE : FuncId → List V → (V × List B → Option β) → Option β
  io : FuncId → Bool
  chE : FuncId → Option (List V → St → (V × St → Option β) → Option β)
  lv : Nat → List Nat
  N : Nat
def he0 (callE : FuncId → List V → (V × List B → Option β) → Option β) : HE β := ⟨callE, fun _ => false, fun _ => none, fun _ => [], 0⟩
def ev2HE (he : HE β) (base : Nat) (o : Op) (s : St) (k : V × (Nat → Option B) × (Nat → Bool) → Option β) : Option β :=
  bif isIo he.io o then (match ioE P he.chE (rho s.t) o with | some z => heapE z.2.1 z.2.2 he.N (he.lv base) base s k | none => none) else ev2E P s.h s.sh (rho s.t) base o k
theorem ev2HE_ok {call : FuncId → List V → Option (V × List B)} {callE : FuncId → List V → (V × List B → Option β) → Option β} {ch : FuncId → Option (List V → St → Option (V × St))} {chE : FuncId → Option (List V → St → (V × St → Option β) → Option β)} (hk : KE ch chE) {io : FuncId → Bool} {lvf : Nat → List Nat} {N base : Nat} {o : Op} {s : St} {k : V × (Nat → Option B) × (Nat → Bool) → Option β} {r : β}
    (h : ev2HE P ⟨callE, io, chE, lvf, N⟩ base o s k = some r) : (ev2H P ⟨call, io, ch, lvf, N⟩ base o s).bind k = some r := by
  unfold ev2HE at h
  unfold ev2H
  simp only at h ⊢
  cases hio : isIo io o with
  | false =>
    simp only [hio, cond_false] at h ⊢
    exact ev2E_ok P h
  | true =>
    simp only [hio, cond_true] at h ⊢
    rcases ioE_ok P hk (rho s.t) o with ⟨h1, h2⟩ | ⟨f, g, gE, args, h1, h2, h3⟩
    · rw [h2] at h; cases h
    · simp only [h1, h2, Option.bind_some] at h ⊢
      exact heapE_ok h3 h

/-- one operation -/
def opE (he : HE β) (nt : Nat) (ops : Array Oper) (hv : Nat → Option B) (base : Nat) (o : Oper) (s : St) (k : St → Option β) : Option β :=
  if (o.dst.all (fun d => decide (d < nt))) = true then
    wantedE ops s o
      (fun s => match kindB P he.io ops o.op with
      | 0 => ev0E P (rho s.t) o.op fun v => forceV v fun v => k { s with t := putD s.t o.dst v }
      | 1 => ev1E P he.callE hv (rho s.t) base o.op fun x => if x.2.1.length ≤ 8 then forceV x.1 fun v => forceBs x.2.1 fun bs =>
            k { s with t := putD s.t o.dst v, h := addB s.h base bs, sh := fun i => if i ∈ x.2.2 then true else s.sh i } else none
      | _ => ev2HE P he base o.op s fun x => forceV x.1 fun v => k { s with t := putD s.t o.dst v, h := x.2.1, sh := x.2.2 })
      (fun s => k { s with t := putD s.t o.dst (.tup []) })
  else none
theorem opE_ok {call : FuncId → List V → Option (V × List B)} {callE : FuncId → List V → (V × List B → Option β) → Option β} (hc : ∀ f a k r, callE f a k = some r → (call f a).bind k = some r) {ch : FuncId → Option (List V → St → Option (V × St))} {chE : FuncId → Option (List V → St → (V × St → Option β) → Option β)} (hk : KE ch chE) {io : FuncId → Bool} {lvf : Nat → List Nat} {N : Nat}
    {nt : Nat} {ops : Array Oper} {hv : Nat → Option B} {base : Nat} {o : Oper} {s : St} {k : St → Option β} {x : β} (h : opE P ⟨callE, io, chE, lvf, N⟩ nt ops hv base o s k = some x) : (opD P ⟨call, io, ch, lvf, N⟩ nt ops hv base o s).bind k = some x := by
  unfold opE at h
  unfold opD
  split at h
  · rename_i h1
    rw [if_pos h1]
    have h2 := wantedE_ok h
    cases a1 : wantedV ops s.t o with
    | none => rw [a1] at h2; cases h2
    | some w =>
      rw [a1] at h2
      simp only [Option.bind_some] at h2 ⊢
      cases w with
      | false => exact h2
      | true =>
        simp only [if_true] at h2 ⊢
        split at h2
        · rename_i hk
          simp only [forceV_eq] at h2
          have h3 := ev0E_ok P h2
          simp only [hk]
          cases a2 : ev0 P (rho s.t) o.op with
          | none => rw [a2] at h3; cases h3
          | some v => rw [a2] at h3; exact h3
        · rename_i hk
          simp only [forceV_eq, forceBs_eq] at h2
          have h3 := ev1E_ok P hc h2
          simp only [hk]
          cases a2 : ev1 P call hv (rho s.t) base o.op with
          | none => rw [a2] at h3; cases h3
          | some v =>
            rw [a2] at h3
            simp only [Option.bind_some] at h3 ⊢
            split at h3
            · rename_i h4
              rw [if_pos h4]
              exact h3
            · cases h3
        · rename_i hk1 hk2
          simp only [forceV_eq] at h2
          have h3 := ev2HE_ok P (call := call) hk h2
          split
          · rename_i hk; exact absurd hk hk1
          · rename_i hk; exact absurd hk hk2
          · cases a2 : ev2H P ⟨call, io, ch, lvf, N⟩ base o.op s with
            | none => rw [a2] at h3; cases h3
            | some v => rw [a2] at h3; exact h3
  · cases h
end
end Go.Proofs.Ytokahibbkdbndaa
