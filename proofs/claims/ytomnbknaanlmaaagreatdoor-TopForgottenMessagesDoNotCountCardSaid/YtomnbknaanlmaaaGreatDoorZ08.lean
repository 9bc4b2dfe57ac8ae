/- The machine in continuation style: stores, appends, one operation, regions. -/
import Derived.Test.YtomnbknaanlmaaaGreatDoorZ07
namespace Go.Proofs.YtomnbknaanlmaaaGreatDoor
open Go.RowKit
section
variable {β : Type}
def forceNat (n : Nat) (k : Nat → Option β) : Option β := match n with
  | 0 => k 0
  | m + 1 => k (m + 1)
theorem forceNat_eq (n : Nat) (k : Nat → Option β) : forceNat n k = k n := by cases n <;> rfl
def forceNL (l : List Nat) (k : List Nat → Option β) : Option β := match l with
  | [] => k []
  | x :: l => forceNat x fun x => forceNL l fun l => k (x :: l)
theorem forceNL_eq : ∀ (l : List Nat) (k : List Nat → Option β), forceNL l k = k l
  | [], _ => rfl
  | x :: l, k => by rw [forceNL, forceNat_eq, forceNL_eq]
end
section
variable (P : Program) {β : Type}
def storeTE (h : Nat → Option B) (sh : Nat → Bool) (id i : Nat) (x : V) (k : (Nat → Option B) × (Nat → Bool) → Option β) : Option β :=
  match h id with
  | some (.row es) => if sh id then none else gdE (decide (i < es.length) && es.all (fun e => e.length == 1)) (k (upd h id (some (.tab es i x)), sh))
  | some (.tab es q v) => gdE (decide (i < es.length)) (brE (decide (q < es.length)) ((frzC h v).bind fun y => if y.2.contains id then none else k (upd h id (some (.tab (es.set q [y.1]) i x)), fun j => if j ∈ y.2 then true else sh j)) (k (upd h id (some (.tab es i x)), sh)))
  | _ => none
theorem storeTE_ok {h : Nat → Option B} {sh : Nat → Bool} {id i : Nat} {x : V} {k : (Nat → Option B) × (Nat → Bool) → Option β} {r : β} (hh : storeTE h sh id i x k = some r) : (storeT h sh id i x).bind k = some r := by
  unfold storeTE at hh
  unfold storeT
  split at hh
  · rename_i es e
    simp only [e]
    split at hh
    · cases hh
    · rename_i hs
      obtain ⟨h0, hh⟩ := gdE_some hh
      simp only [Bool.and_eq_true, decide_eq_true_eq] at h0
      rw [if_pos ⟨by simpa using hs, h0.1, h0.2⟩]
      exact hh
  · rename_i es q v e
    simp only [e]
    obtain ⟨h0, hh⟩ := gdE_some hh
    simp only [decide_eq_true_eq] at h0
    rw [if_pos h0]
    by_cases hq : q < es.length
    case neg =>
      simp only [hq, decide_false, brE] at hh
      simp only [hq, if_false, Option.bind_some]
      exact hh
    simp only [hq, decide_true, brE] at hh
    simp only [hq, if_true]
    cases hf : frzC h v with
    | none => rw [hf] at hh; cases hh
    | some y =>
      rw [hf] at hh
      simp only [Option.bind_some] at hh ⊢
      split at hh
      · cases hh
      · rename_i h1; rw [if_neg h1]; exact hh
  · cases hh
def storeE (h : Nat → Option B) (sh : Nat → Bool) (t : TypeId) (a x : V) (k : (Nat → Option B) × (Nat → Bool) → Option β) : Option β :=
  match a with
  | .rptr id z i off => x.cells.bind fun vs => if szO P t ≠ some vs.length then none else
    if z = 1 ∧ off = 0 ∧ isRowV x = true then storeTE h sh id i x k else
    match h id with
    | some (.row es) => if sh id then none else gdE (decide (i < es.length) && (es.getD i []).length == z) (if off + vs.length ≤ z then
        (frzL h vs).bind fun y => forceCs y.1 fun yl => if y.2.contains id then none else k (upd h id (some (.row (es.set i (splice (es.getD i []) off yl)))), fun j => if j ∈ y.2 then true else sh j) else none)
    | _ => none
  | a => (storeV P h sh t a x).bind k
theorem storeE_ok {h : Nat → Option B} {sh : Nat → Bool} {t : TypeId} {a x : V} {k : (Nat → Option B) × (Nat → Bool) → Option β} {r : β} (hh : storeE P h sh t a x k = some r) : (storeV P h sh t a x).bind k = some r := by
  unfold storeE at hh
  split at hh
  · unfold storeV
    cases a1 : x.cells with
    | none => rw [a1] at hh; cases hh
    | some vs =>
      rw [a1] at hh
      simp only [Option.bind_some] at hh ⊢
      split at hh
      · cases hh
      · rename_i h1
        rw [if_neg h1]
        split at hh
        · rename_i h2
          simp only [if_pos h2]
          exact storeTE_ok hh
        rename_i hnT
        simp only [if_neg hnT]
        split at hh
        · rename_i es e
          simp only [e]
          split at hh
          · cases hh
          · rename_i h2
            rw [if_neg h2]
            obtain ⟨h0, hh⟩ := gdE_some hh
            simp only [Bool.and_eq_true, decide_eq_true_eq, beq_iff_eq] at h0
            rw [getD_at (d := []) h0.1]
            simp only [Option.bind_some]
            split at hh
            · rename_i h3
              rw [if_pos ⟨h0.2, by rw [h0.2]; exact h3⟩]
              cases a2 : frzL h vs with
              | none => rw [a2] at hh; cases hh
              | some y =>
                rw [a2] at hh
                simp only [Option.bind_some, forceCs_eq] at hh ⊢
                split at hh
                · cases hh
                · rename_i h4
                  rw [if_neg h4]
                  exact hh
            · cases hh
        · cases hh
  · exact hh
/-- what is appended to -/
def tgE (h : Nat → Option B) (s : V) (_xs : List (List C)) (k : List (List C) × Nat × Option Nat → Option β) : Option β := (tgtV h s true).bind k
theorem tgE_ok {h : Nat → Option B} {s : V} {xs : List (List C)} {k : List (List C) × Nat × Option Nat → Option β} {r : β} (hh : tgE h s xs k = some r) : ∃ g, tgtV h s xs.isEmpty = some g ∧ k g = some r := by
  unfold tgE at hh
  · cases a : tgtV h s true with
    | none => rw [a] at hh; cases hh
    | some g => rw [a] at hh; exact ⟨g, tgtV_any a _, hh⟩
/-- append -/
def apdE (h : Nat → Option B) (sh : Nat → Bool) (base : Nat) (e : TypeId) (s : V) (y : Option (C × List Nat)) (k : V × (Nat → Option B) × (Nat → Bool) → Option β) : Option β :=
  (P.info? e).bind fun i => if 0 < i.size ∧ i.zero.map (fun z => z.cells.size) = some i.size then
    y.bind fun y => match y.1 with
    | .sl xs => tgE h s xs fun g =>
      if g.2.2.all (fun id => !y.2.contains id) = true then
        gdE ((xs.all (fun el => el.length == i.size) && g.1.all (fun el => el.length == i.size)) && decide (((g.2.1 + xs.length) + (g.2.1 + xs.length) / 4 + 192) * i.bytes ≤ 281474976710656) && decide (g.2.1 + xs.length ≤ 9223372036854775807))
          (k (.row base (g.2.1 + xs.length), upd (dropO h g.2.2) base (some (.row (g.1 ++ xs))), upd (fun j => if j ∈ y.2 then true else sh j) base ((g.2.2.map sh).getD false)))
      else none
    | _ => none
  else none
theorem apdE_ok {h : Nat → Option B} {sh : Nat → Bool} {base : Nat} {e : TypeId} {s : V} {x : Option (C × List Nat)} {k : V × (Nat → Option B) × (Nat → Bool) → Option β} {r : β} (hh : apdE P h sh base e s x k = some r) : (apdV P h sh base e s x).bind k = some r := by
  unfold apdE at hh
  unfold apdV
  cases a1 : P.info? e with
  | none => rw [a1] at hh; cases hh
  | some i =>
    rw [a1] at hh
    simp only [Option.bind_some] at hh ⊢
    split at hh
    · rename_i h1
      rw [if_pos h1]
      cases a2 : x with
      | none => rw [a2] at hh; cases hh
      | some y =>
        rw [a2] at hh
        simp only [Option.bind_some] at hh ⊢
        split at hh
        · rename_i xs e1
          simp only [e1]
          obtain ⟨g, a3, hh⟩ := tgE_ok hh
          · rw [a3]
            simp only [Option.bind_some] at hh ⊢
            split at hh
            · rename_i h2
              obtain ⟨h0, hh⟩ := gdE_some hh
              rw [Bool.and_eq_true, Bool.and_eq_true, decide_eq_true_eq, decide_eq_true_eq] at h0
              rw [if_pos ⟨h0.1.1, h0.1.2, h0.2, h2⟩]
              exact hh
            · cases hh
        · cases hh
    · cases hh
/-- a store into a map -/
def setE (h : Nat → Option B) (sh : Nat → Bool) (t : TypeId) (m k v : V) (kk : V × (Nat → Option B) × (Nat → Bool) → Option β) : Option β :=
  match P.underlying t, m, k, v with
  | some (.map kt _), .mp id, .c (.str k), .c (.str v) => bif isStrT P kt then match h id with
    | some (.mp l) => gdE (decide (k.size ≤ maxLen) && decide (v.size ≤ maxLen) && decide (l.length < maxLen)) (kk (.any, upd h id (some (.mp (putM l k v))), sh))
    | _ => none else none
  | _, _, _, _ => none
theorem setE_ok {h : Nat → Option B} {sh : Nat → Bool} {t : TypeId} {m k v : V} {kk : V × (Nat → Option B) × (Nat → Bool) → Option β} {r : β} (hh : setE P h sh t m k v kk = some r) : (setM P h sh t m k v).bind kk = some r := by
  unfold setE at hh
  unfold setM
  split at hh
  case h_2 => cases hh
  rename_i kt et id k v hu
  simp only [hu]
  cases hs : isStrT P kt with
  | false => rw [hs] at hh; cases hh
  | true =>
  rw [hs] at hh
  simp only [cond_true] at hh ⊢
  split at hh
  case h_2 => cases hh
  rename_i l hl
  simp only [hl]
  obtain ⟨h0, hh⟩ := gdE_some hh
  simp only [Bool.and_eq_true, decide_eq_true_eq] at h0
  rw [if_pos ⟨h0.1.1, h0.1.2, h0.2⟩]
  exact hh
def ev2E (h : Nat → Option B) (sh : Nat → Bool) (r : Operand → V) (base : Nat) (o : Op) (k : V × (Nat → Option B) × (Nat → Bool) → Option β) : Option β :=
  match o with
  | .store t a x => storeE P h sh t (r a) (r x) fun y => k (.any, y.1, y.2)
  | .mapUpdate t m x v => setE P h sh t (r m) (r x) (r v) k
  | .call { callee := .builtin .append, args, argTypes } =>
    match argTypes.toList, args.toList with
    | [t, t'], [s, x] => match P.underlying t, P.underlying t' with
      | some (.slice e), some (.slice _) => apdE P h sh base e (r s) (frzC h (r x)) k
      | some (.slice e), some .string => bif isByteT P e then apdE P h sh base e (r s) (strY (r x)) k else none
      | _, _ => none
    | _, _ => none
  | _ => none
theorem ev2E_ok {h : Nat → Option B} {sh : Nat → Bool} {r : Operand → V} {base : Nat} {o : Op} {k : V × (Nat → Option B) × (Nat → Bool) → Option β} {x : β} (hh : ev2E P h sh r base o k = some x) : (ev2 P h sh r base o).bind k = some x := by
  unfold ev2E at hh
  split at hh
  · have := storeE_ok P hh
    simp only [ev2]
    cases e : storeV P h sh _ (r _) (r _) with
    | none => rw [e] at this; cases this
    | some v => rw [e] at this; exact this
  · exact setE_ok P hh
  · unfold ev2
    split at hh
    · rename_i e1 e2
      simp only [e1, e2]
      split at hh
      · rename_i e3 e4
        simp only [e3, e4]
        exact apdE_ok P hh
      · rename_i e e3 e4
        simp only [e3, e4]
        cases hb : isByteT P e with
        | true => rw [hb] at hh; exact apdE_ok P hh
        | false => rw [hb] at hh; cases hh
      · cases hh
    · cases hh
  · cases hh
/-- a slot holds what it holds -/
theorem updV_id {t : Nat → V} {d : Nat} {v : V} (h : t d = v) : upd t d v = t := by
  funext j; unfold upd; split
  · rename_i e; rw [e, h]
  · rfl
/-- is the operation wanted? the test's slot becomes a literal -/
def wantedE (ops : Array Oper) (s : St) (o : Oper) (a b : St → Option β) : Option β :=
  match o.guard with
  | none => a s
  | some (j, want) => match (ops[j]?).bind (·.dst) with
    | some d => match s.t d with
      | .c (.bool q) => brE (q == want) (a { s with t := upd s.t d (.c (.bool want)) }) (b { s with t := upd s.t d (.c (.bool !want)) })
      | .tup _ => b s
      | _ => none
    | none => none
theorem wantedE_ok {ops : Array Oper} {s : St} {o : Oper} {a b : St → Option β} {r : β} (h : wantedE ops s o a b = some r) : (wantedV ops s.t o).bind (fun w => if w then a s else b s) = some r := by
  unfold wantedE at h
  unfold wantedV
  split at h
  · rename_i e
    simp only [e]
    exact h
  · rename_i j want e
    simp only [e]
    split at h
    · rename_i d e0
      simp only [e0, Option.map_some]
      split at h
      · rename_i q e1
        simp only [e1, Option.bind_some]
        by_cases hq : q = want
        · subst hq
          rw [updV_id e1] at h
          simp only [beq_self_eq_true, brE] at h
          simp only [beq_self_eq_true, if_true]
          exact h
        · have e2 : q = !want := by cases q <;> cases want <;> simp_all
          have e3 : (q == want) = false := by simpa using hq
          rw [← e2, updV_id e1, e3] at h
          simp only [e3, Bool.false_eq_true, if_false]
          exact h
      · rename_i e1
        simp only [e1, Option.bind_some]
        exact h
      · cases h
    · cases h
def forceB (x : B) (k : B → Option β) : Option β := match x with
  | .box cs => forceL2 cs fun cs => k (.box cs)
  | .row es => k (.row es)
  | .mp l => k (.mp l)
  | .tab es i v => forceV v fun v => k (.tab es i v)
theorem forceB_eq (x : B) (k : B → Option β) : forceB x k = k x := by cases x <;> simp only [forceB, forceL2_eq, forceV_eq]
def forceBs (l : List B) (k : List B → Option β) : Option β := match l with
  | [] => k []
  | x :: l => forceB x fun x => forceBs l fun l => k (x :: l)
theorem forceBs_eq : ∀ (l : List B) (k : List B → Option β), forceBs l k = k l
  | [], _ => rfl
  | x :: l, k => by rw [forceBs, forceB_eq, forceBs_eq]
def ioE (chE : FuncId → Option (List V → St → (V × St → Option β) → Option β)) (r : Operand → V) : Op → Option (FuncId × (List V → St → (V × St → Option β) → Option β) × List V)
  | .call { callee := .value f, args, .. } => match r f with
    | .fn g caps => (bodyOf P (cFn g)).bind fun _ => (chE (cFn g)).map fun h => (cFn g, h, cAr g (args.toList.map r) caps)
    | _ => none
  | _ => none
/-- heap functions in continuation style -/
def KE (ch : FuncId → Option (List V → St → Option (V × St))) (chE : FuncId → Option (List V → St → (V × St → Option β) → Option β)) : Prop :=
  ∀ f, (ch f = none ∧ chE f = none) ∨ ∃ (g : List V → St → Option (V × St)) (gE : List V → St → (V × St → Option β) → Option β), ch f = some g ∧ chE f = some gE ∧ ∀ args s k r, gE args s k = some r → ∃ x, g args s = some x ∧ k x = some r
theorem ioE_ok {ch : FuncId → Option (List V → St → Option (V × St))} {chE : FuncId → Option (List V → St → (V × St → Option β) → Option β)} (hk : KE ch chE) (r : Operand → V) (o : Op) :
    (ioOf P ch r o = none ∧ ioE P chE r o = none) ∨ ∃ (f : FuncId) (g : List V → St → Option (V × St)) (gE : List V → St → (V × St → Option β) → Option β) (args : List V), ioOf P ch r o = some (f, g, args) ∧ ioE P chE r o = some (f, gE, args) ∧ ∀ args s k r, gE args s k = some r → ∃ x, g args s = some x ∧ k x = some r := by
  by_cases h : ∃ f args ats, o = .call { callee := .value f, args := args, argTypes := ats }
  · obtain ⟨f, args, ats, rfl⟩ := h
    simp only [ioOf, ioE]
    generalize r f = v
    cases v with
    | fn g caps =>
      simp only
      cases bodyOf P (cFn g) with
      | none => exact .inl ⟨rfl, rfl⟩
      | some fn =>
        simp only [Option.bind_some]
        rcases hk (cFn g) with ⟨h1, h2⟩ | ⟨g', gE, h1, h2, h3⟩
        · exact .inl ⟨by rw [h1]; rfl, by rw [h2]; rfl⟩
        · exact .inr ⟨cFn g, g', gE, _, by rw [h1]; rfl, by rw [h2]; rfl, h3⟩
    | _ => exact .inl ⟨rfl, rfl⟩
  · refine .inl ⟨?_, ?_⟩
    · unfold ioOf; split; (exact absurd ⟨_, _, _, rfl⟩ h); rfl
    · unfold ioE; split; (exact absurd ⟨_, _, _, rfl⟩ h); rfl
theorem KE.no : KE (β := β) (fun _ => none) (fun _ => none) := fun _ => .inl ⟨rfl, rfl⟩
/-- a call on the caller's heap -/
def heapE (g : List V → St → (V × St → Option β) → Option β) (args : List V) (N : Nat) (lv : List Nat) (base : Nat) (s : St) (k : V × (Nat → Option B) × (Nat → Bool) → Option β) : Option β :=
  forceNL (reach s.h args) fun K => forceNL (ogK K lv s) fun og =>
    g args { t := fun _ => .any, h := onlyB K s.h, sh := s.sh, nx := N, lr := fun _ => [], lw := fun _ => [], og := og } fun x =>
      if x.2.og.length = og.length ∧ x.2.nx ≤ 8 then k (topO (fun j => some (bkR og base x.2.og j)) x.1, bkH K og base x.2 s.h, bkS K og base x.2 s.sh) else none
theorem heapE_ok {g : List V → St → Option (V × St)} {gE : List V → St → (V × St → Option β) → Option β} (h3 : ∀ args s k r, gE args s k = some r → ∃ x, g args s = some x ∧ k x = some r) {args : List V} {N : Nat} {lv : List Nat} {base : Nat} {s : St} {k : V × (Nat → Option B) × (Nat → Bool) → Option β} {r : β} (h : heapE gE args N lv base s k = some r) : (heapD g args N lv base s).bind k = some r := by
  unfold heapE at h
  rw [forceNL_eq, forceNL_eq] at h
  obtain ⟨x, e1, e2⟩ := h3 _ _ _ _ h
  unfold heapD
  rw [e1]
  simp only [Option.bind_some]
  split at e2
  · rename_i hc
    rw [if_pos hc]
    exact e2
  · cases e2
/-- what calls do -/
structure HE (β : Type) where
  callE : FuncId → List V → (V × List B → Option β) → Option β
  io : FuncId → Bool
  chE : FuncId → Option (List V → St → (V × St → Option β) → Option β)
  lv : Nat → List Nat
  N : Nat
def he0 (callE : FuncId → List V → (V × List B → Option β) → Option β) : HE β := ⟨callE, fun _ => false, fun _ => none, fun _ => [], 0⟩
def ev2HE (he : HE β) (base : Nat) (o : Op) (s : St) (k : V × (Nat → Option B) × (Nat → Bool) → Option β) : Option β :=
  bif isIo he.io o then (match ioE P he.chE (rho s.t) o with | some z => heapE z.2.1 z.2.2 he.N (he.lv base) base s k | none => none) else ev2E P s.h s.sh (rho s.t) base o k
theorem ev2HE_ok {call : FuncId → List V → Option (V × List B)} {callE : FuncId → List V → (V × List B → Option β) → Option β} {ch : FuncId → Option (List V → St → Option (V × St))} {chE : FuncId → Option (List V → St → (V × St → Option β) → Option β)} (hk : KE ch chE) {io : FuncId → Bool} {lvf : Nat → List Nat} {N base : Nat} {o : Op} {s : St} {k : V × (Nat → Option B) × (Nat → Bool) → Option β} {r : β}
    (h : ev2HE P ⟨callE, io, chE, lvf, N⟩ base o s k = some r) : (ev2H P ⟨call, io, ch, lvf, N⟩ base o s).bind k = some r := by
  unfold ev2HE at h
  unfold ev2H
  simp only at h ⊢
  cases hio : isIo io o with
  | false =>
    simp only [hio, cond_false] at h ⊢
    exact ev2E_ok P h
  | true =>
    simp only [hio, cond_true] at h ⊢
    rcases ioE_ok P hk (rho s.t) o with ⟨h1, h2⟩ | ⟨f, g, gE, args, h1, h2, h3⟩
    · rw [h2] at h; cases h
    · simp only [h1, h2, Option.bind_some] at h ⊢
      exact heapE_ok h3 h
/-- one operation -/
def opE (q : Bool) (he : HE β) (nt : Nat) (ops : Array Oper) (hv : Nat → Option B) (base : Nat) (o : Oper) (s : St) (k : St → Option β) : Option β :=
  if (o.dst.all (fun d => decide (d < nt))) = true then
    wantedE ops s o
      (fun s => match kindB P he.io ops o.op with
      | 0 => ev0E P (rho s.t) o.op fun v => forceV v fun v => k { s with t := putD s.t o.dst v }
      | 1 => ev1Q P q he.callE hv (rho s.t) base o.op fun x => if x.2.1.length ≤ 8 then forceV x.1 fun v => forceBs x.2.1 fun bs =>
            k { s with t := putD s.t o.dst v, h := addB s.h base bs, sh := fun i => if i ∈ x.2.2 then true else s.sh i } else none
      | _ => ev2HE P he base o.op s fun x => forceV x.1 fun v => k { s with t := putD s.t o.dst v, h := x.2.1, sh := x.2.2 })
      (fun s => k { s with t := putD s.t o.dst (.tup []) })
  else none
theorem opE_ok {call : FuncId → List V → Option (V × List B)} {callE : FuncId → List V → (V × List B → Option β) → Option β} (hc : ∀ f a k r, callE f a k = some r → (call f a).bind k = some r) {ch : FuncId → Option (List V → St → Option (V × St))} {chE : FuncId → Option (List V → St → (V × St → Option β) → Option β)} (hk : KE ch chE) {io : FuncId → Bool} {lvf : Nat → List Nat} {N : Nat}
    {q : Bool} {nt : Nat} {ops : Array Oper} {hv : Nat → Option B} {base : Nat} {o : Oper} {s : St} {k : St → Option β} {x : β} (h : opE P q ⟨callE, io, chE, lvf, N⟩ nt ops hv base o s k = some x) : (opD P ⟨call, io, ch, lvf, N⟩ nt ops hv base o s).bind k = some x := by
  unfold opE at h
  unfold opD
  split at h
  · rename_i h1
    rw [if_pos h1]
    have h2 := wantedE_ok h
    cases a1 : wantedV ops s.t o with
    | none => rw [a1] at h2; cases h2
    | some w =>
      rw [a1] at h2
      simp only [Option.bind_some] at h2 ⊢
      cases w with
      | false => exact h2
      | true =>
        simp only [if_true] at h2 ⊢
        split at h2
        · rename_i hk
          simp only [forceV_eq] at h2
          have h3 := ev0E_ok P h2
          simp only [hk]
          cases a2 : ev0 P (rho s.t) o.op with
          | none => rw [a2] at h3; cases h3
          | some v => rw [a2] at h3; exact h3
        · rename_i hk
          simp only [forceV_eq, forceBs_eq] at h2
          have h3 := ev1Q_ok P hc h2
          simp only [hk]
          cases a2 : ev1 P call hv (rho s.t) base o.op with
          | none => rw [a2] at h3; cases h3
          | some v =>
            rw [a2] at h3
            simp only [Option.bind_some] at h3 ⊢
            split at h3
            · rename_i h4
              rw [if_pos h4]
              exact h3
            · cases h3
        · rename_i hk1 hk2
          simp only [forceV_eq] at h2
          have h3 := ev2HE_ok P (call := call) hk h2
          split
          · rename_i hk; exact absurd hk hk1
          · rename_i hk; exact absurd hk hk2
          · cases a2 : ev2H P ⟨call, io, ch, lvf, N⟩ base o.op s with
            | none => rw [a2] at h3; cases h3
            | some v => rw [a2] at h3; exact h3
  · cases h
end
end Go.Proofs.YtomnbknaanlmaaaGreatDoor
namespace Go.Proofs.YtomnbknaanlmaaaGreatDoor
open Go.RowKit
section
variable (P : Program) {β : Type}
def stE (callE : HE β) (nt : Nat) (ops : Array Oper) (an : Nat → Nat) (rb j : Nat) (o : Oper) (s : St) (k : St → Option β) : Option β :=
  if (logOk ops.size an s.lw j (ldAdr (rho s.t) o.op) && logOk ops.size an s.lr j (stAdr callE.io ops s.h (rho s.t) o.op)) = true then
    opE P true callE nt ops (visB s.h rb (an j)) (rb + 8 * j) o s fun s' => k { s' with lr := upd s.lr j (ldAdr (rho s.t) o.op), lw := upd s.lw j (stAdr callE.io ops s.h (rho s.t) o.op) }
  else none
def runE (callE : HE β) (nt : Nat) (ops : Array Oper) (an : Nat → Nat) (rb : Nat) : List Oper → Nat → St → (St → Option β) → Option β
  | [], _, s, k => k s
  | o :: os, j, s, k => stE P callE nt ops an rb j o s fun s => runE callE nt ops an rb os (j + 1) s k
def runNE (callE : FuncId → List V → (V × List B → Option β) → Option β) (chE : FuncId → Option (List V → St → (V × St → Option β) → Option β)) (lv : Nat → List Nat) (nt : Nat) (ops : Array Oper) : List Oper → Nat → Nat → St → (St → Option β) → Option β
  | [], _, base, s, k => k { s with nx := base }
  | o :: os, j, base, s, k => match ioE P chE (rho s.t) o.op with
    | some (_, g, args) => if (o.dst.all (fun d => decide (d < nt))) = true then (wantedV ops s.t o).bind fun w => if w then
          heapE g args base (lv j) base s fun x => runNE callE chE lv nt ops os (j + 1) (base + 8) { s with t := putD s.t o.dst x.1, h := x.2.1, sh := x.2.2 } k
        else runNE callE chE lv nt ops os (j + 1) (base + 8) { s with t := putD s.t o.dst (.tup []) } k
      else none
    | none => opE P false (he0 callE) nt ops s.h base o s fun s => runNE callE chE lv nt ops os (j + 1) (base + 8) s k
variable {call : FuncId → List V → Option (V × List B)} {callE : FuncId → List V → (V × List B → Option β) → Option β}
theorem stE_ok {call : FuncId → List V → Option (V × List B)} {callE : FuncId → List V → (V × List B → Option β) → Option β} (hc : ∀ f a k r, callE f a k = some r → (call f a).bind k = some r) {ch : FuncId → Option (List V → St → Option (V × St))} {chE : FuncId → Option (List V → St → (V × St → Option β) → Option β)} (hk : KE ch chE) {io : FuncId → Bool} {lvf : Nat → List Nat} {N : Nat} {nt : Nat} {ops : Array Oper} {an : Nat → Nat} {rb j : Nat} {o : Oper} {s : St} {k : St → Option β} {x : β} (h : stE P ⟨callE, io, chE, lvf, N⟩ nt ops an rb j o s k = some x) : (stepD P ⟨call, io, ch, lvf, N⟩ nt ops an rb j o s).bind k = some x := by
  unfold stE at h
  unfold stepD
  split at h
  · rename_i h1
    rw [if_pos h1]
    have h2 := opE_ok P hc hk h
    cases a : opD P ⟨call, io, ch, lvf, N⟩ nt ops (visB s.h rb (an j)) (rb + 8 * j) o s with
    | none => rw [a] at h2; cases h2
    | some v => rw [a] at h2; exact h2
  · cases h
theorem runE_ok {call : FuncId → List V → Option (V × List B)} {callE : FuncId → List V → (V × List B → Option β) → Option β} (hc : ∀ f a k r, callE f a k = some r → (call f a).bind k = some r) {ch : FuncId → Option (List V → St → Option (V × St))} {chE : FuncId → Option (List V → St → (V × St → Option β) → Option β)} (hk : KE ch chE) {io : FuncId → Bool} {lvf : Nat → List Nat} {N : Nat} {nt : Nat} {ops : Array Oper} {an : Nat → Nat} {rb : Nat} : ∀ (os : List Oper) (j : Nat) (s : St) (k : St → Option β) (x : β), ops.toList.drop j = os → runE P ⟨callE, io, chE, lvf, N⟩ nt ops an rb os j s k = some x → (runD P ⟨call, io, ch, lvf, N⟩ nt ops an rb (List.range' j os.length) s).bind k = some x
  | [], _, s, k, x, _, h => h
  | o :: os, j, s, k, x, ho, h => by
    have hj : ops[j]? = some o := by
      have : (ops.toList.drop j)[0]? = some o := by rw [ho]; rfl
      rw [List.getElem?_drop] at this
      simpa using this
    have hd : ops.toList.drop (j + 1) = os := by
      rw [← List.tail_drop, ho]; rfl
    rw [runE] at h
    have h1 := stE_ok P hc hk h
    rw [List.length_cons, List.range'_succ, runD, hj]
    simp only [Option.bind_some]
    cases a : stepD P ⟨call, io, ch, lvf, N⟩ nt ops an rb j o s with
    | none => rw [a] at h1; cases h1
    | some s1 =>
      rw [a] at h1
      exact runE_ok hc hk os (j + 1) s1 k x hd h1
variable (hc : ∀ f a k r, callE f a k = some r → (call f a).bind k = some r)
include hc
theorem runNE_ok {ch : FuncId → Option (List V → St → Option (V × St))} {chE : FuncId → Option (List V → St → (V × St → Option β) → Option β)} (hk : KE ch chE) {lv : Nat → List Nat} {nt : Nat} {ops : Array Oper} : ∀ (os : List Oper) (j b : Nat) (s : St) (k : St → Option β) (x : β), runNE P callE chE lv nt ops os j b s k = some x → (runN P call ch lv nt ops os j b s).bind k = some x
  | [], _, _, s, k, x, h => h
  | o :: os, j, b, s, k, x, h => by
    rw [runNE] at h
    rw [runN]
    rcases ioE_ok P hk (rho s.t) o.op with ⟨h1, h2⟩ | ⟨f, g, gE, args, h1, h2, h3⟩
    · simp only [h1, h2] at h ⊢
      have h1 : (opD P (hp0 call) nt ops s.h b o s).bind (fun s => runNE P callE chE lv nt ops os (j + 1) (b + 8) s k) = some x := opE_ok P hc (KE.no) h
      cases a : opD P (hp0 call) nt ops s.h b o s with
      | none => rw [a] at h1; cases h1
      | some s1 =>
        rw [a] at h1
        exact runNE_ok hk os (j + 1) (b + 8) s1 k x h1
    · simp only [h1, h2] at h ⊢
      split at h
      case isFalse => cases h
      rename_i hd
      simp only [hd, if_true]
      cases hw : wantedV ops s.t o with
      | none => rw [hw] at h; cases h
      | some q =>
        rw [hw] at h
        simp only [Option.bind_some] at h ⊢
        cases q with
        | false => exact runNE_ok hk os (j + 1) (b + 8) _ k x h
        | true =>
          simp only [if_true] at h ⊢
          have e2 := heapE_ok h3 h
          cases hy : heapD g args b (lv j) b s with
          | none => rw [hy] at e2; cases e2
          | some y =>
            rw [hy] at e2
            simp only [Option.bind_some] at e2 ⊢
            exact runNE_ok hk os _ _ _ k x e2
end
section
variable {β : Type}
def forceT (l : List (Nat × V)) (k : List (Nat × V) → Option β) : Option β := match l with
  | [] => k []
  | (i, v) :: l => forceV v fun v => forceT l fun l => k ((i, v) :: l)
theorem forceT_eq : ∀ (l : List (Nat × V)) (k : List (Nat × V) → Option β), forceT l k = k l
  | [], _ => rfl
  | (i, v) :: l, k => by rw [forceT, forceV_eq, forceT_eq]
def forceOB (x : Option B) (k : Option B → Option β) : Option β := match x with
  | none => k none
  | some b => forceB b fun b => k (some b)
theorem forceOB_eq (x : Option B) (k : Option B → Option β) : forceOB x k = k x := by cases x <;> simp only [forceOB, forceB_eq]
def forceH (l : List (Option B)) (k : List (Option B) → Option β) : Option β := match l with
  | [] => k []
  | x :: l => forceOB x fun x => forceH l fun l => k (x :: l)
theorem forceH_eq : ∀ (l : List (Option B)) (k : List (Option B) → Option β), forceH l k = k l
  | [], _ => rfl
  | x :: l, k => by rw [forceH, forceOB_eq, forceH_eq]
def forceS (l : List Bool) (k : List Bool → Option β) : Option β := match l with
  | [] => k []
  | true :: l => forceS l fun l => k (true :: l)
  | false :: l => forceS l fun l => k (false :: l)
theorem forceS_eq : ∀ (l : List Bool) (k : List Bool → Option β), forceS l k = k l
  | [], _ => rfl
  | true :: l, k => by rw [forceS, forceS_eq]
  | false :: l, k => by rw [forceS, forceS_eq]
end
end Go.Proofs.YtomnbknaanlmaaaGreatDoor
namespace Go.Proofs.YtomnbknaanlmaaaGreatDoor
open Go.RowKit
structure LS where
  t : List (Nat × V)
  h : List (Option B)
  sh : List Bool
  og : List Nat
def LS.st (s : LS) : St := mkS s.t s.h s.sh s.og
def setT (d : Nat) (v : V) : List (Nat × V) → List (Nat × V)
  | [] => []
  | (j, x) :: l => bif j == d then (j, v) :: l else (j, x) :: setT d v l
theorem setT_tb {d : Nat} {v : V} : ∀ (l : List (Nat × V)), tb l d = v → tb (setT d v l) = tb l
  | [], _ => rfl
  | (j, x) :: l, h => by
    unfold setT
    by_cases e : j = d
    · subst e
      simp only [tb, if_true] at h
      subst h
      simp
    · have e' : (j == d) = false := by simpa using e
      simp only [tb, Ne.symm e, if_false] at h
      simp only [e', cond_false]
      funext i
      simp only [tb, setT_tb l h]
section
variable {β : Type}
/-- the state behind a region, asx lists -/
def canK (live : List Nat) (s : St) (k : LS → Option β) : Option β :=
  forceNL (canL live s) fun l => forceT (canT live s (fun id => pos id l)) fun t => forceH (l.map fun id => (nilH s.nx s.h id).map (B.renO (fun id => pos id l))) fun h => forceS (l.map (nilSh s.nx s.sh)) fun sh => forceNL (canO s (fun id => pos id l)) fun og => k ⟨t, h, sh, og⟩
theorem canK_ok {live : List Nat} {s : St} {k : LS → Option β} {r : β} (h : canK live s k = some r) : ∃ ls, canon live s = ls.st ∧ k ls = some r := by
  unfold canK at h
  rw [forceNL_eq, forceT_eq, forceH_eq, forceS_eq, forceNL_eq] at h
  exact ⟨⟨_, _, _, _⟩, canon_mk live s, h⟩
end
/-- a tested slot becomes a literal -/
def setL (s : LS) (c : Operand) (q : Bool) : LS := match c with
  | .tmp d => { s with t := setT d (.c (.bool q)) s.t }
  | _ => s
theorem setL_st {s : LS} {c : Operand} {q : Bool} (h : rho s.st.t c = .c (.bool q)) : (setL s c q).st = s.st := by
  cases c with
  | tmp d =>
    have h' : tb s.t d = .c (.bool q) := h
    simp only [setL, LS.st, mkS, setT_tb s.t h']
  | _ => rfl
/-- loops of a piece of code, the outer ones -/
def loopsOf (live : Nat → List Nat) : Code → List Code
  | .loop c => [c]
  | .seq a b => loopsOf live a ++ (match cutL live b with | [] => loopsOf live b | _ => [])
  | .cond _ a b => loopsOf live a ++ loopsOf live b
  | .block _ c => loopsOf live c
  | _ => []
/-- pieces of code that are cut -/
def segsOf (live : Nat → List Nat) : Code → List Code
  | .seq a b => segsOf live a ++ (match cutL live b with | [] => segsOf live b | _ => [b])
  | .cond _ a b => segsOf live a ++ segsOf live b
  | .block _ c => segsOf live c
  | _ => []
def allDraw (P : Program) (io : FuncId → Bool) (live : Nat → List Nat) : Code → Bool
  | .region id ops true => drawOk P (ioR live id io) (fun j => live (3000000 + 1000 * id + j)) ops
  | .seq a b => allDraw P io live a && allDraw P io live b
  | .cond _ a b => allDraw P io live a && allDraw P io live b
  | .block _ c => allDraw P io live c
  | _ => true
def en (args : List V) (k : Nat) : List (Nat × V) := match args with
  | [] => []
  | a :: l => (k, a) :: en l (k + 1)
theorem en_tb : ∀ (args : List V) (k i : Nat), tb (en args k) i = if i < k then .any else args.getD (i - k) .any
  | [], k, i => by simp [en, tb]
  | a :: l, k, i => by
    simp only [en, tb, en_tb l (k + 1) i]
    by_cases h1 : i = k
    · subst h1; simp
    · by_cases h2 : i < k
      · simp [h1, h2, show i < k + 1 by omega]
      · have h3 : ¬ i < k + 1 := by omega
        have h4 : i - k = (i - (k + 1)) + 1 := by omega
        simp only [h1, h2, h3, if_false]
        rw [h4, List.getD_cons_succ]
theorem st0_eq (args : List V) : st0 args = LS.st ⟨en args 0, [], [], []⟩ := by
  unfold st0 LS.st mkS
  congr 1
  funext i
  simp [en_tb]
section
variable (P : Program) {β : Type}
def codeL (io : FuncId → Bool) (live : Nat → List Nat) (callE : FuncId → List V → (V × List B → Option β) → Option β) (chE : FuncId → Option (List V → St → (V × St → Option β) → Option β)) (nt : Nat) (loopE segE : Nat → LS → (Nat × LS → Option β) → Option β) : Code → LS → (Nat × LS → Option β) → Option β
  | .skip, s, k => k (0, s)
  | .region id ops true, s, k => forceNL (befL ops.toList []) fun an => runE P ⟨callE, ioR live id io, chE, lvD (ioR live id io) (fun j => live (3000000 + 1000 * id + j)) ops s.h.length, s.h.length + 8 * ops.size⟩ nt ops (fun j => an.getD j 0) s.h.length ops.toList 0 s.st fun s' => canK (live (2 * id + 1)) { s' with nx := s.h.length + 8 * ops.size } fun s' => k (0, s')
  | .region id ops false, s, k => runNE P callE chE (fun j => live (3000000 + 1000 * id + j)) nt ops ops.toList 0 s.h.length s.st fun s' => canK (live (2 * id + 1)) s' fun s' => k (0, s')
  | .seq a b, s, k => codeL io live callE chE nt loopE segE a s fun x => match x with
    | (0, s) => match cutL live b with
      | [] => codeL io live callE chE nt loopE segE b s k
      | _ :: _ => match fstRegion b with | some id => segE id s k | none => none
    | (n + 1, s) => k (n + 1, s)
  | .cond c a b, s, k => match rho s.st.t c with | .c (.bool q) => brE q (codeL io live callE chE nt loopE segE a (setL s c true) k) (codeL io live callE chE nt loopE segE b (setL s c false) k) | _ => none
  | .block id c, s, k => codeL io live callE chE nt loopE segE c s fun x => if x.1 = id + 2 then k (0, x.2) else k x
  | .loop c, s, k => match fstRegion c with | some id => loopE id s k | none => none
  | .exit id, s, k => k (id + 2, s)
  | .ret, s, k => k (1, s)
  | _, _, _ => none
theorem codeL_ok {live : Nat → List Nat} {call : CT} {callE : FuncId → List V → (V × List B → Option β) → Option β} (hc : ∀ f a k r, callE f a k = some r → (call.call f a).bind k = some r) {chE : FuncId → Option (List V → St → (V × St → Option β) → Option β)} (hk : KE call.ch chE)
    {nt : Nat} {again : Code → St → Option (Nat × St)} {loopE segE : Nat → LS → (Nat × LS → Option β) → Option β} :
    ∀ (c : Code), allDraw P call.io live c = true → (∀ L ∈ loopsOf live c, ∀ id, fstRegion L = some id → ∀ s k r, loopE id s k = some r → ∃ n s', stepC P live call nt again (.loop L) s.st = some (n, s'.st) ∧ k (n, s') = some r) →
    (∀ L ∈ segsOf live c, ∀ id, fstRegion L = some id → ∀ s k r, segE id s k = some r → ∃ n s', stepC P live call nt again L (cutS live L s.st) = some (n, s'.st) ∧ k (n, s') = some r) →
    ∀ (s : LS) (k : Nat × LS → Option β) (r : β), codeL P call.io live callE chE nt loopE segE c s k = some r → ∃ n s', stepC P live call nt again c s.st = some (n, s'.st) ∧ k (n, s') = some r := by
  intro c
  induction c with
  | skip => intro _ _ _ s k r h; exact ⟨0, s, rfl, h⟩
  | region id ops dr =>
    intro hd _ _ s k r h
    cases dr with
    | true =>
      rw [stepC_draw hd]
      simp only [codeL, forceNL_eq] at h
      have h1 := runE_ok P hc hk ops.toList 0 _ _ _ rfl h
      rw [Array.length_toList, ← List.range_eq_range'] at h1
      have e : (fun j => (befL ops.toList []).getD j 0) = anOf ops := rfl
      rw [e] at h1
      cases a : runD P ⟨call.call, ioR live id call.io, call.ch, lvD (ioR live id call.io) (fun j => live (3000000 + 1000 * id + j)) ops s.h.length, s.h.length + 8 * ops.size⟩ nt ops (anOf ops) s.h.length (List.range ops.size) s.st with
      | none => rw [a] at h1; cases h1
      | some s1 =>
        rw [a] at h1
        simp only [Option.bind_some] at h1
        obtain ⟨ls, h2, h3⟩ := canK_ok h1
        refine ⟨0, ls, ?_, h3⟩
        show (runD P ⟨call.call, ioR live id call.io, call.ch, lvD (ioR live id call.io) (fun j => live (3000000 + 1000 * id + j)) ops s.h.length, s.h.length + 8 * ops.size⟩ nt ops (anOf ops) s.h.length (List.range ops.size) s.st).map _ = _
        rw [a, ← h2]
        rfl
    | false =>
      rw [stepC_plain]
      simp only [codeL] at h
      have h1 := runNE_ok P hc hk ops.toList _ _ _ _ _ h
      cases a : runN P call.call call.ch (fun j => live (3000000 + 1000 * id + j)) nt ops ops.toList 0 s.h.length s.st with
      | none => rw [a] at h1; cases h1
      | some s1 =>
        rw [a] at h1
        simp only [Option.bind_some] at h1
        obtain ⟨ls, h2, h3⟩ := canK_ok h1
        refine ⟨0, ls, ?_, h3⟩
        show (runN P call.call call.ch (fun j => live (3000000 + 1000 * id + j)) nt ops ops.toList 0 s.h.length s.st).map _ = _
        rw [a, ← h2]
        rfl
  | seq a b iha ihb =>
    intro hd hl hg s k r h
    simp only [allDraw, Bool.and_eq_true] at hd
    simp only [codeL] at h
    obtain ⟨n, s1, h1, h2⟩ := iha hd.1 (fun L hL => hl L (by simp [loopsOf, hL])) (fun L hL => hg L (by simp [segsOf, hL])) _ _ _ h
    rw [stepC_seq, h1]
    simp only [Option.bind_some]
    cases n with
    | zero =>
      simp only [if_true]
      simp only at h2
      split at h2
      · rename_i e
        simp only [cutS, e]
        exact ihb hd.2 (fun L hL => hl L (by simp [loopsOf, e, hL])) (fun L hL => hg L (by simp [segsOf, e, hL])) _ _ _ h2
      · rename_i i l e
        split at h2
        · rename_i id e'
          exact hg b (by simp [segsOf, e]) id e' _ _ _ h2
        · cases h2
    | succ n => exact ⟨n + 1, s1, by simp, h2⟩
  | cond c a b iha ihb =>
    intro hd hl hg s k r h
    simp only [allDraw, Bool.and_eq_true] at hd
    simp only [codeL] at h
    split at h
    · rename_i q e
      rw [stepC_cond e]
      cases q with
      | true =>
        obtain ⟨n, s1, h1, h2⟩ := iha hd.1 (fun L hL => hl L (by simp [loopsOf, hL])) (fun L hL => hg L (by simp [segsOf, hL])) _ _ _ h
        rw [setL_st e] at h1
        exact ⟨n, s1, h1, h2⟩
      | false =>
        obtain ⟨n, s1, h1, h2⟩ := ihb hd.2 (fun L hL => hl L (by simp [loopsOf, hL])) (fun L hL => hg L (by simp [segsOf, hL])) _ _ _ h
        rw [setL_st e] at h1
        exact ⟨n, s1, h1, h2⟩
    · cases h
  | block id c ih =>
    intro hd hl hg s k r h
    simp only [allDraw] at hd
    simp only [codeL] at h
    obtain ⟨n, s1, h1, h2⟩ := ih hd (fun L hL => hl L (by simpa [loopsOf] using hL)) (fun L hL => hg L (by simpa [segsOf] using hL)) _ _ _ h
    rw [stepC_block, h1]
    simp only [Option.bind_some]
    split at h2
    · rename_i h3
      simp only at h3
      exact ⟨0, s1, by simp [h3], h2⟩
    · rename_i h3
      simp only at h3
      exact ⟨n, s1, by simp [h3], h2⟩
  | loop c ih =>
    intro _ hl _ s k r h
    simp only [codeL] at h
    split at h
    · rename_i id e
      exact hl c (by simp [loopsOf]) id e s k r h
    · cases h
  | exit id => intro _ _ _ s k r h; exact ⟨id + 2, s, rfl, h⟩
  | ret => intro _ _ _ s k r h; exact ⟨1, s, rfl, h⟩
  | _ => intro _ _ _ s k r h; simp [codeL] at h
end
/-- the one that there is -/
noncomputable def pick {α : Type} (p : α → Prop) : Option α := open Classical in if h : ∃ a, p a then some h.choose else none
theorem pick_spec {α : Type} {p : α → Prop} {a : α} (h : pick p = some a) : p a := by
  unfold pick at h
  split at h
  · rename_i hx
    injection h with h
    rw [← h]
    exact hx.choose_spec
  · cases h
theorem pick_of {α : Type} {p : α → Prop} {a : α} (h : p a) (hu : ∀ b, p b → b = a) : pick p = some a := by
  unfold pick
  have hx : ∃ a, p a := ⟨a, h⟩
  rw [dif_pos hx, hu _ hx.choose_spec]
section
variable {P : Program} {live : FuncId → Nat → List Nat} {X : XT}
variable (P live X) in
/-- a loop from a state at its head -/
noncomputable def loopFrom (f nt : Nat) (c : Code) (s : St) : Option (Nat × St) := (stepC P (live f) (CallT P live X) nt (Exec P live X f nt) c s).bind fun x => if x.1 = 0 then Exec P live X f nt (.loop c) x.2 else some x
variable (live) in
def headOf (f : Nat) (c : Code) : List Nat := ((fstRegion c).map fun id => live f (2 * id)).getD []
variable (live) in
def headS (f : Nat) (c : Code) (s : St) : St := shareS (shq (live f) c) s
theorem stepC_from {f nt : Nat} {c : Code} {s : St} : stepC P (live f) (CallT P live X) nt (Exec P live X f nt) (.loop c) s = loopFrom P live X f nt c (canon (headOf live f c) (headS live f c s)) := rfl
end
end Go.Proofs.YtomnbknaanlmaaaGreatDoor
namespace Go.Proofs.YtomnbknaanlmaaaGreatDoor
open Go.RowKit
/-- a code: ρ is what the machine has, τ what it stands for -/
structure Cod (ρ τ : Type) : Type 1 where
  enc : τ → ρ
  dec : (β : Type) → ρ → (τ → Option β) → Option β
  ok : ∀ {β : Type} {r : ρ} {k : τ → Option β} {b : β}, dec β r k = some b → ∃ x, r = enc x ∧ k x = some b
  inj : ∀ {x y : τ}, enc x = enc y → x = y
/-- elements of lists -/
structure EC (τ : Type) where
  enc : τ → List C
  dec : List C → τ
  is : List C → Bool
  enc_dec : ∀ {c : List C}, is c = true → enc (dec c) = c
  dec_enc : ∀ (x : τ), dec (enc x) = x
  is_enc : ∀ (x : τ), is (enc x) = true
def cInt (k : IntKind) : Cod C Int where
  enc n := .int k n
  dec _ r f := match r with | .int k' n => if k' = k then f n else none | _ => none
  ok h := by
    split at h
    · split at h
      · rename_i e; subst e; exact ⟨_, rfl, h⟩
      · cases h
    · cases h
  inj h := by injection h
def cBool : Cod C Bool where
  enc n := .bool n
  dec _ r f := match r with | .bool n => f n | _ => none
  ok h := by split at h; exact ⟨_, rfl, h⟩; cases h
  inj h := by injection h
def cStr : Cod C ByteArray where
  enc n := .str n
  dec _ r f := match r with | .str n => f n | _ => none
  ok h := by split at h; exact ⟨_, rfl, h⟩; cases h
  inj h := by injection h
theorem EC.map_dec {τ : Type} (e : EC τ) : ∀ {es : List (List C)}, es.all e.is = true → (es.map e.dec).map e.enc = es
  | [], _ => rfl
  | c :: es, h => by
    simp only [List.all_cons, Bool.and_eq_true] at h
    simp only [List.map_cons, e.enc_dec h.1, e.map_dec h.2]
theorem EC.map_enc {τ : Type} (e : EC τ) (xs : List τ) : (xs.map e.enc).map e.dec = xs := by
  induction xs with
  | nil => rfl
  | cons x xs ih => simp only [List.map_cons, e.dec_enc, ih]
theorem EC.all_enc {τ : Type} (e : EC τ) (xs : List τ) : (xs.map e.enc).all e.is = true := by
  induction xs with
  | nil => rfl
  | cons x xs ih => simp only [List.map_cons, List.all_cons, e.is_enc, ih, Bool.and_self]
def EC.encL {τ : Type} (e : EC τ) (xs : List τ) : List (List C) := xs.map e.enc
def EC.decL {τ : Type} (e : EC τ) (es : List (List C)) : List τ := es.map e.dec
def EC.isL {τ : Type} (e : EC τ) (es : List (List C)) : Bool := es.all e.is
@[simp] theorem EC.decL_encL {τ : Type} (e : EC τ) (xs : List τ) : e.decL (e.encL xs) = xs := e.map_enc xs
@[simp] theorem EC.isL_encL {τ : Type} (e : EC τ) (xs : List τ) : e.isL (e.encL xs) = true := e.all_enc xs
theorem EC.encL_decL {τ : Type} (e : EC τ) {es : List (List C)} (h : e.isL es = true) : e.encL (e.decL es) = es := e.map_dec h
theorem EC.encL_inj {τ : Type} (e : EC τ) {xs ys : List τ} (h : e.encL xs = e.encL ys) : xs = ys := by rw [← e.decL_encL xs, h, e.decL_encL]
def cSl {τ : Type} (e : EC τ) : Cod C (List τ) where
  enc xs := .sl (e.encL xs)
  dec _ r f := match r with | .sl es => gdE (e.isL es) (f (e.decL es)) | _ => none
  ok h := by
    split at h
    · obtain ⟨h0, h⟩ := gdE_some h
      exact ⟨_, by rw [e.encL_decL h0], h⟩
    · cases h
  inj h := by injection h with h; exact e.encL_inj h
/-- a value of one cell -/
def vC {τ : Type} (c : Cod C τ) : Cod V τ where
  enc x := .c (c.enc x)
  dec β r f := match r with | .c y => c.dec β y f | _ => none
  ok h := by
    split at h
    · obtain ⟨x, e, h⟩ := c.ok h
      exact ⟨x, by rw [e], h⟩
    · cases h
  inj h := by injection h with h; exact c.inj h
def lOne {ρ τ : Type} (c : Cod ρ τ) : Cod (List ρ) τ where
  enc x := [c.enc x]
  dec β r f := match r with | [y] => c.dec β y f | _ => none
  ok h := by
    split at h
    · obtain ⟨x, e, h⟩ := c.ok h
      exact ⟨x, by rw [e], h⟩
    · cases h
  inj h := by injection h with h _; exact c.inj h
def lNil {ρ : Type} : Cod (List ρ) Unit where
  enc _ := []
  dec _ r f := match r with | [] => f () | _ => none
  ok h := by split at h; exact ⟨_, rfl, h⟩; cases h
  inj _ := rfl
def lCons {ρ τ σ : Type} (c : Cod ρ τ) (d : Cod (List ρ) σ) : Cod (List ρ) (τ × σ) where
  enc x := c.enc x.1 :: d.enc x.2
  dec β r f := match r with | y :: l => c.dec β y fun a => d.dec β l fun b => f (a, b) | _ => none
  ok h := by
    split at h
    · obtain ⟨x, e, h⟩ := c.ok h
      obtain ⟨z, e', h⟩ := d.ok h
      exact ⟨(x, z), by rw [e, e'], h⟩
    · cases h
  inj h := by
    rename_i x y
    injection h with h1 h2
    exact Prod.ext (c.inj h1) (d.inj h2)
def vAgg {τ : Type} (c : Cod (List V) τ) : Cod V τ where
  enc x := .agg (c.enc x)
  dec β r f := match r with | .agg y => c.dec β y f | _ => none
  ok h := by
    split at h
    · obtain ⟨x, e, h⟩ := c.ok h
      exact ⟨x, by rw [e], h⟩
    · cases h
  inj h := by injection h with h; exact c.inj h
def vTup {τ : Type} (c : Cod (List V) τ) : Cod V τ where
  enc x := .tup (c.enc x)
  dec β r f := match r with | .tup y => c.dec β y f | _ => none
  ok h := by
    split at h
    · obtain ⟨x, e, h⟩ := c.ok h
      exact ⟨x, by rw [e], h⟩
    · cases h
  inj h := by injection h with h; exact c.inj h
/-- an own row: its length -/
def vRow (i : Nat) : Cod V Nat where
  enc n := .row i n
  dec _ r f := match r with | .row j n => if j = i then f n else none | _ => none
  ok h := by
    split at h
    · split at h
      · rename_i e; subst e; exact ⟨_, rfl, h⟩
      · cases h
    · cases h
  inj h := by injection h
def vPtr (i o : Nat) : Cod V Unit where
  enc _ := .ptr i o
  dec _ r f := match r with | .ptr j q => if j = i ∧ q = o then f () else none | _ => none
  ok h := by
    split at h
    · split at h
      · rename_i e; rw [e.1, e.2]; exact ⟨_, rfl, h⟩
      · cases h
    · cases h
  inj _ := rfl
def vFn {τ : Type} (g : Nat) (c : Cod (List V) τ) : Cod V τ where
  enc x := .fn g (c.enc x)
  dec β r f := match r with | .fn q y => if q = g then c.dec β y f else none | _ => none
  ok h := by
    split at h
    · split at h
      · rename_i e; subst e
        obtain ⟨x, e, h⟩ := c.ok h
        exact ⟨x, by rw [e], h⟩
      · cases h
    · cases h
  inj h := by injection h with _ h; exact c.inj h
def bRow {τ : Type} (e : EC τ) : Cod B (List τ) where
  enc xs := .row (e.encL xs)
  dec _ r f := match r with | .row es => gdE (e.isL es) (f (e.decL es)) | _ => none
  ok h := by
    split at h
    · obtain ⟨h0, h⟩ := gdE_some h
      exact ⟨_, by rw [e.encL_decL h0], h⟩
    · cases h
  inj h := by injection h with h; exact e.encL_inj h
def bBox {τ : Type} (c : Cod (List V) τ) : Cod B τ where
  enc x := .box (c.enc x)
  dec β r f := match r with | .box y => c.dec β y f | _ => none
  ok h := by
    split at h
    · obtain ⟨x, e, h⟩ := c.ok h
      exact ⟨x, by rw [e], h⟩
    · cases h
  inj h := by injection h with h; exact c.inj h
def oSome {ρ τ : Type} (c : Cod ρ τ) : Cod (Option ρ) τ where
  enc x := some (c.enc x)
  dec β r f := match r with | some y => c.dec β y f | _ => none
  ok h := by
    split at h
    · obtain ⟨x, e, h⟩ := c.ok h
      exact ⟨x, by rw [e], h⟩
    · cases h
  inj h := by injection h with h; exact c.inj h
def cPair {ρ ρ' τ σ : Type} (c : Cod ρ τ) (d : Cod ρ' σ) : Cod (ρ × ρ') (τ × σ) where
  enc x := (c.enc x.1, d.enc x.2)
  dec β r f := match r with | (y, l) => c.dec β y fun a => d.dec β l fun b => f (a, b)
  ok h := by
    obtain ⟨x, e, h⟩ := c.ok h
    obtain ⟨z, e', h⟩ := d.ok h
    exact ⟨(x, z), by rw [← e, ← e'], h⟩
  inj h := by
    injection h with h1 h2
    exact Prod.ext (c.inj h1) (d.inj h2)
/-- the second part says nothing -/
def cFst {ρ τ σ : Type} (u : σ) (hu : ∀ y : σ, y = u) (c : Cod ρ (τ × σ)) : Cod ρ τ where
  enc x := c.enc (x, u)
  dec β r f := c.dec β r fun x => f x.1
  ok h := by
    obtain ⟨⟨x, y⟩, e, h⟩ := c.ok h
    exact ⟨x, by rw [e, hu y], h⟩
  inj h := by have := c.inj h; injection this
def cFstU {ρ τ : Type} (c : Cod ρ (τ × Unit)) : Cod ρ τ := cFst () (fun _ => rfl) c
/-- states of a shape -/
structure SC (τ : Type) : Type 1 where
  c : Cod LS τ
  inj : ∀ {x y : τ}, (c.enc x).st = (c.enc y).st → x = y
theorem zip_get : ∀ {keys : List Nat} {a : List V} {i : Nat} {v : V}, keys.Nodup → a.length = keys.length → (∃ k : Nat, keys[k]? = some i ∧ a[k]? = some v) → tb (keys.zip a) i = v
  | [], a, i, v, _, _, ⟨k, h, _⟩ => by simp at h
  | j :: keys, [], i, v, _, hl, _ => by simp at hl
  | j :: keys, b :: a, i, v, hn, hl, ⟨k, h1, h2⟩ => by
    simp only [List.zip_cons_cons, tb]
    cases k with
    | zero => simp at h1 h2; simp [h1, h2]
    | succ k =>
      simp at h1 h2
      have hi : i ∈ keys := List.mem_of_getElem? h1
      have hne : i ≠ j := fun e => (List.nodup_cons.1 hn).1 (e ▸ hi)
      rw [if_neg hne]
      exact zip_get (List.nodup_cons.1 hn).2 (by simpa using hl) ⟨k, h1, h2⟩
theorem st_inj {keys : List Nat} {a b : List V} {h h' : List (Option B)} {sh sh' : List Bool} {og og' : List Nat} (hn : keys.Nodup) (ha : a.length = keys.length) (hb : b.length = keys.length) (e : LS.st ⟨keys.zip a, h, sh, og⟩ = LS.st ⟨keys.zip b, h', sh', og'⟩) : a = b ∧ h = h' := by
  have e1 : tb (keys.zip a) = tb (keys.zip b) := congrArg St.t e
  have e2 : (fun j => (h[j]?).getD none) = (fun j => (h'[j]?).getD none) := congrArg St.h e
  have e3 : h.length = h'.length := congrArg St.nx e
  constructor
  · apply List.ext_getElem (by omega)
    intro i hi hi'
    have hk : i < keys.length := by omega
    have c1 := zip_get (i := keys[i]) (v := a[i]) hn ha ⟨i, List.getElem?_eq_getElem hk, List.getElem?_eq_getElem hi⟩
    have c2 := zip_get (i := keys[i]) (v := b[i]) hn hb ⟨i, List.getElem?_eq_getElem hk, List.getElem?_eq_getElem hi'⟩
    rw [← c1, e1, c2]
  · apply List.ext_getElem e3
    intro i hi hi'
    have := congrFun e2 i
    simp only [List.getElem?_eq_getElem hi, List.getElem?_eq_getElem hi', Option.getD_some] at this
    exact this
def unz : List (Nat × V) → List V
  | [] => []
  | (_, v) :: l => v :: unz l
def keysB : List Nat → List (Nat × V) → Bool
  | [], [] => true
  | i :: l, (j, _) :: l' => i == j && keysB l l'
  | _, _ => false
theorem zip_unz : ∀ {keys : List Nat} {t : List (Nat × V)}, keysB keys t = true → keys.zip (unz t) = t
  | [], [], _ => rfl
  | [], _ :: _, h => by simp [keysB] at h
  | _ :: _, [], h => by simp [keysB] at h
  | i :: l, (j, v) :: l', h => by
    simp only [keysB, Bool.and_eq_true, beq_iff_eq] at h
    simp only [unz, List.zip_cons_cons, zip_unz h.2, h.1]
def shB : List Bool → List Bool → Bool
  | [], [] => true
  | true :: l, true :: l' => shB l l'
  | false :: l, false :: l' => shB l l'
  | _, _ => false
theorem shB_eq : ∀ {a b : List Bool}, shB a b = true → a = b
  | [], [], _ => rfl
  | true :: a, true :: b, h => by rw [shB_eq (a := a) (b := b) h]
  | false :: a, false :: b, h => by rw [shB_eq (a := a) (b := b) h]
  | [], _ :: _, h => by simp [shB] at h
  | true :: _, [], h => by simp [shB] at h
  | false :: _, [], h => by simp [shB] at h
  | true :: _, false :: _, h => by simp [shB] at h
  | false :: _, true :: _, h => by simp [shB] at h
def nlB : List Nat → List Nat → Bool
  | [], [] => true
  | i :: l, j :: l' => i == j && nlB l l'
  | _, _ => false
theorem nlB_eq : ∀ {a b : List Nat}, nlB a b = true → a = b
  | [], [], _ => rfl
  | i :: a, j :: b, h => by
    simp only [nlB, Bool.and_eq_true, beq_iff_eq] at h
    rw [h.1, nlB_eq h.2]
  | [], _ :: _, h => by simp [nlB] at h
  | _ :: _, [], h => by simp [nlB] at h
def sLS {τ σ : Type} (keys : List Nat) (ct : Cod (List V) τ) (ch : Cod (List (Option B)) σ) (sh : List Bool) (og : List Nat) (hn : keys.Nodup) (hl : ∀ x, (ct.enc x).length = keys.length) : SC (τ × σ) where
  c := {
    enc := fun x => ⟨keys.zip (ct.enc x.1), ch.enc x.2, sh, og⟩
    dec := fun β s f => match s with | ⟨t, h, sh', og'⟩ => if keysB keys t && shB sh sh' && nlB og og' then ct.dec β (unz t) fun a => ch.dec β h fun b => f (a, b) else none
    ok := fun h => by
      rename_i s k b
      obtain ⟨t, h0, sh', og'⟩ := s
      simp only at h
      split at h
      · rename_i hk
        rw [Bool.and_eq_true, Bool.and_eq_true] at hk
        obtain ⟨x, e, h⟩ := ct.ok h
        obtain ⟨z, e', h⟩ := ch.ok h
        exact ⟨(x, z), by simp only [← e, ← e', zip_unz hk.1.1, shB_eq hk.1.2, nlB_eq hk.2], h⟩
      · cases h
    inj := fun h => by
      rename_i x y
      injection h with h1 h2 _ _
      have h1' := (st_inj (h := []) (h' := []) (sh := []) (sh' := []) (og := []) (og' := []) hn (hl x.1) (hl y.1) (by rw [h1])).1
      exact Prod.ext (ct.inj h1') (ch.inj h2) }
  inj h := by
    rename_i x y
    obtain ⟨h1, h2⟩ := st_inj hn (hl x.1) (hl y.1) h
    exact Prod.ext (ct.inj h1) (ch.inj h2)
/-- outcomes of a loop -/
structure OC (ω : Type) : Type 1 where
  enc : ω → Nat × LS
  dec : (β : Type) → Nat × LS → (ω → Option β) → Option β
  ok : ∀ {β : Type} {r : Nat × LS} {k : ω → Option β} {b : β}, dec β r k = some b → ∃ x, r = enc x ∧ k x = some b
  inj : ∀ {x y : ω}, (enc x).1 = (enc y).1 → (enc x).2.st = (enc y).2.st → x = y
  go : (β : Type) → ω → (Nat × LS → Option β) → Option β
  go_eq : ∀ (β : Type) (x : ω) (k : Nat × LS → Option β), go β x k = k (enc x)
def oAt {τ : Type} (n : Nat) (s : SC τ) : OC τ where
  enc x := (n, s.c.enc x)
  dec β r f := if r.1 = n then s.c.dec β r.2 f else none
  ok h := by
    rename_i r k b
    split at h
    · rename_i e
      obtain ⟨x, e', h⟩ := s.c.ok h
      exact ⟨x, by rw [← e, ← e'], h⟩
    · cases h
  inj _ h := s.inj h
  go _ x k := k (n, s.c.enc x)
  go_eq _ _ _ := rfl
def oOr {τ σ : Type} (n : Nat) (s : SC τ) (o : OC σ) (hd : ∀ x, (o.enc x).1 ≠ n) : OC (τ ⊕ σ) where
  enc x := match x with | .inl x => (n, s.c.enc x) | .inr y => o.enc y
  dec β r f := if r.1 = n then s.c.dec β r.2 fun x => f (.inl x) else o.dec β r fun x => f (.inr x)
  ok h := by
    rename_i r k b
    split at h
    · rename_i e
      obtain ⟨x, e', h⟩ := s.c.ok h
      exact ⟨.inl x, by simp only [← e, ← e'], h⟩
    · obtain ⟨x, e', h⟩ := o.ok h
      exact ⟨.inr x, e', h⟩
  inj h1 h2 := by
    rename_i x y
    cases x with
    | inl x => cases y with
      | inl y => exact congrArg Sum.inl (s.inj h2)
      | inr y => exact absurd h1.symm (hd y)
    | inr x => cases y with
      | inl y => exact absurd h1 (hd x)
      | inr y => exact congrArg Sum.inr (o.inj h1 h2)
  go β x k := match x with | .inl x => k (n, s.c.enc x) | .inr y => o.go β y k
  go_eq β x k := by cases x with | inl x => rfl | inr y => exact o.go_eq β y k
section
variable (P : Program) (live : FuncId → Nat → List Nat) (X : XT)
/-- a function, asx a plain one -/
noncomputable def fS {τ ρ : Type} (f : FuncId) (ca : Cod (List V) τ) (cr : Cod (V × List B) ρ) (x : τ) : Option ρ := pick fun r => Call P live X f (ca.enc x) = some (cr.enc r)
/-- a loop, asx a plain function -/
noncomputable def lS {σ ω : Type} (f nt : Nat) (c : Code) (s : SC σ) (o : OC ω) (x : σ) : Option ω := pick fun r => loopFrom P live X f nt c (s.c.enc x).st = some ((o.enc r).1, (o.enc r).2.st)
variable {P live X}
theorem fS_call {τ ρ : Type} {f : FuncId} {ca : Cod (List V) τ} {cr : Cod (V × List B) ρ} {x : τ} {r : ρ} (h : fS P live X f ca cr x = some r) : Call P live X f (ca.enc x) = some (cr.enc r) := pick_spec (p := fun r => Call P live X f (ca.enc x) = some (cr.enc r)) h
theorem fS_of {τ ρ : Type} {f : FuncId} {ca : Cod (List V) τ} {cr : Cod (V × List B) ρ} {x : τ} {r : ρ} (h : Call P live X f (ca.enc x) = some (cr.enc r)) : fS P live X f ca cr x = some r := pick_of h fun b hb => by
  rw [h] at hb
  injection hb with hb
  exact (cr.inj hb).symm
theorem lS_of {σ ω : Type} {f nt : Nat} {c : Code} {s : SC σ} {o : OC ω} {x : σ} {r : ω} (h : loopFrom P live X f nt c (s.c.enc x).st = some ((o.enc r).1, (o.enc r).2.st)) : lS P live X f nt c s o x = some r := pick_of h fun b hb => by
  rw [h] at hb
  injection hb with hb
  injection hb with h1 h2
  exact (o.inj h1 h2).symm
theorem lS_from {σ ω : Type} {f nt : Nat} {c : Code} {s : SC σ} {o : OC ω} {x : σ} {r : ω} (h : lS P live X f nt c s o x = some r) : loopFrom P live X f nt c (s.c.enc x).st = some ((o.enc r).1, (o.enc r).2.st) := pick_spec (p := fun r => loopFrom P live X f nt c (s.c.enc x).st = some ((o.enc r).1, (o.enc r).2.st)) h
variable (P live X)
/-- a table's row for a function; key: the functions among the arguments -/
structure Ent : Type 1 where
  f : Nat
  key : List Nat
  run : (β : Type) → List V → (V × List B → Option β) → Option β
  ok : ∀ {β : Type} {a : List V} {k : V × List B → Option β} {r : β}, run β a k = some r → (Call P live X f a).bind k = some r
def keyOf : List V → List Nat
  | [] => []
  | .fn f _ :: l => f :: keyOf l
  | _ :: l => keyOf l
def keyEq : List Nat → List Nat → Bool
  | [], [] => true
  | i :: l, j :: l' => i == j && keyEq l l'
  | _, _ => false
def look (β : Type) : List (Ent P live X) → FuncId → List V → (V × List B → Option β) → Option β
  | [], _, _, _ => none
  | e :: es, f, a, k => bif f == e.f && keyEq e.key (keyOf a) then e.run β a k else look β es f a k
theorem look_ok {β : Type} : ∀ (es : List (Ent P live X)) (f : FuncId) (a : List V) (k : V × List B → Option β) (r : β), look P live X β es f a k = some r → (Call P live X f a).bind k = some r
  | [], _, _, _, _, h => by cases h
  | e :: es, f, a, k, r, h => by
    unfold look at h
    cases hb : f == e.f && keyEq e.key (keyOf a) with
    | true =>
      rw [hb] at h
      rw [Bool.and_eq_true] at hb
      have : f = e.f := by simpa using hb.1
      subst this
      exact e.ok h
    | false => rw [hb] at h; exact look_ok es f a k r h
def entS {τ ρ : Type} (f : FuncId) (key : List Nat) (ca : Cod (List V) τ) (cr : Cod (V × List B) ρ) (g : τ → Option ρ) (hg : ∀ x r, g x = some r → Call P live X f (ca.enc x) = some (cr.enc r)) : Ent P live X where
  f := f
  key := key
  run β a k := ca.dec β a fun x => (g x).bind fun r => k (cr.enc r)
  ok h := by
    obtain ⟨x, e, h'⟩ := ca.ok h
    clear h
    have h := h'
    subst e
    cases hx : g x with
    | none => rw [hx] at h; cases h
    | some r => rw [hx] at h; rw [hg x r hx]; exact h
/-- the shape of a state: nothing that is not written out -/
def keyC : C → Nat
  | .int _ _ => 1 | .bool _ => 2 | .str _ => 3 | .sl _ => 4 | .nilS => 5 | .ne => 6 | .zs => 7 | .nilP => 8 | .nilF => 9
def keyV0 : V → List Nat
  | .c x => [1, keyC x]
  | .row id _ => [2, id]
  | .ptr id off => [3, id, off]
  | .rptr id k _ off => [4, id, k, off]
  | .eptr cs off => [5, cs.length, off]
  | _ => [0]
def keyV : V → List Nat
  | .agg cs => 7 :: cs.length :: cs.flatMap keyV0
  | .fn f cs => 6 :: f :: cs.length :: cs.flatMap keyV0
  | .mp id => [8, id]
  | v => keyV0 v
def keyB : Option B → List Nat
  | some (.box cs) => 1 :: cs.length :: cs.flatMap keyV
  | some (.row _) => [2]
  | some (.tab _ _ v) => 3 :: keyV v
  | some (.mp _) => [4]
  | none => [0]
def keyLS (s : LS) : List Nat := s.t.flatMap (fun p => p.1 :: keyV p.2) ++ (s.h.flatMap keyB ++ s.og)
/-- a function that defers a call, from its first state -/
noncomputable def heapD1 (f : FuncId) (fn : Func) (c : Code) (st : St) : Option (V × St) := (splitD c).bind fun d => (exL (Exec P live X f fn.ntmps) d.1 st).bind fun x =>
  (defD fn.ntmps d.2.1 d.2.2.1 x).bind fun s1 => (Exec P live X f fn.ntmps d.2.2.2.2 s1).bind fun y =>
    if y.1 ≤ 1 ∧ y.2.og.length = s1.og.length then (endD (runH P (fzL live) (Exec P live X) d.2.2.2.1) (slotsR fn) y.2).bind fun s2 => (resV P fn s2).bind fun vs => (finH (fzL live f) s2 vs).map fun z => (oneOrTup ((List.range z.1.length).map (endN z.1 z.2).t), endN z.1 z.2) else none
/-- a function from its first state -/
noncomputable def heapFrom (f : FuncId) (st : St) : Option (V × St) := (bodyOf P f).bind fun fn => fn.body.bind fun c => bif dfB live f then heapD1 P live X f fn c st else (Exec P live X f fn.ntmps c st).bind fun x => if x.1 ≤ 1 then (resV P fn x.2).bind fun vs => (finH (fzL live f) x.2 vs).map fun z => (oneOrTup ((List.range z.1.length).map (endN z.1 z.2).t), endN z.1 z.2) else none
/-- a table's row for a function on the caller's heap, at a shape -/
structure HEnt : Type 1 where
  f : Nat
  key : List Nat
  run : (β : Type) → LS → (V × St → Option β) → Option β
  ok : ∀ {β : Type} {s : LS} {k : V × St → Option β} {r : β}, run β s k = some r → ∃ x, heapFrom P live X f s.st = some x ∧ k x = some r
def lookHK (β : Type) : List (HEnt P live X) → FuncId → LS → (V × St → Option β) → Option β
  | [], _, _, _ => none
  | e :: es, f, s, k => bif f == e.f && nlB e.key (keyLS s) then e.run β s k else lookHK β es f s k
theorem lookHK_ok {β : Type} : ∀ (es : List (HEnt P live X)) (f : FuncId) (s : LS) (k : V × St → Option β) (r : β), lookHK P live X β es f s k = some r → ∃ x, heapFrom P live X f s.st = some x ∧ k x = some r
  | [], _, _, _, _, h => by cases h
  | e :: es, f, s, k, r, h => by
    unfold lookHK at h
    cases hb : f == e.f && nlB e.key (keyLS s) with
    | true =>
      rw [hb] at h
      rw [Bool.and_eq_true] at hb
      have : f = e.f := by simpa using hb.1
      subst this
      exact e.ok h
    | false => rw [hb] at h; exact lookHK_ok es f s k r h
def lookHE (β : Type) (es : List (HEnt P live X)) (f : FuncId) (a : List V) (s : St) (k : V × St → Option β) : Option β :=
  (bodyOf P f).bind fun fn => if a.length ≤ fn.ntmps then canK (List.range a.length) (hst a s) fun ls => lookHK P live X β es f ls k else none
theorem lookHE_ok {β : Type} (es : List (HEnt P live X)) (f : FuncId) (a : List V) (s : St) (k : V × St → Option β) (r : β) (h : lookHE P live X β es f a s k = some r) : ∃ x, (bif dfB live f then runHD P (fzL live) (Exec P live X) f a s else runH P (fzL live) (Exec P live X) f a s) = some x ∧ k x = some r := by
  unfold lookHE at h
  cases hb : bodyOf P f with
  | none => rw [hb] at h; cases h
  | some fn =>
    rw [hb] at h
    simp only [Option.bind_some] at h
    split at h
    case isFalse => cases h
    rename_i hn
    obtain ⟨l1, h1, h2⟩ := canK_ok h
    obtain ⟨x, h3, h4⟩ := lookHK_ok P live X es f l1 k r h2
    refine ⟨x, ?_, h4⟩
    rw [← h1] at h3
    unfold heapFrom at h3
    rw [hb] at h3
    cases hdf : dfB live f with
    | true =>
      rw [hdf] at h3
      simp only [cond_true] at h3 ⊢
      unfold runHD
      rw [hb]
      simp only [Option.bind_some, hn, if_true] at h3 ⊢
      exact h3
    | false =>
      rw [hdf] at h3
      simp only [cond_false] at h3 ⊢
      unfold runH
      rw [hb]
      simp only [Option.bind_some, hn, if_true] at h3 ⊢
      exact h3
/-- a rule -/
def runXE (β : Type) (R : XRule) (a : List V) (s : St) (k : V × St → Option β) : Option β :=
  if a.length = R.n then canK (List.range a.length) (hst a s) fun ls => R.run β ls.st fun x => canK (List.range x.1.length) { x.2 with t := fun i => x.1.getD i .any } fun l2 => k (oneOrTup ((List.range x.1.length).map l2.st.t), l2.st) else none
theorem runXE_ok {β : Type} (R : XRule) (a : List V) (s : St) (k : V × St → Option β) (r : β) (h : runXE β R a s k = some r) : ∃ x, runX R a s = some x ∧ k x = some r := by
  unfold runXE at h
  split at h
  case isFalse => cases h
  rename_i hn
  obtain ⟨l1, h1, h2⟩ := canK_ok h
  rw [R.ok] at h2
  cases hx : R.run (List V × St) l1.st some with
  | none => rw [hx] at h2; cases h2
  | some x =>
    rw [hx] at h2
    simp only [Option.bind_some] at h2
    obtain ⟨l2, h3, h4⟩ := canK_ok h2
    refine ⟨_, ?_, h4⟩
    unfold runX
    have e : endN x.1 x.2 = l2.st := h3
    rw [if_pos hn, h1, hx, Option.map_some, e]
def lookH (β : Type) (hs : List (HEnt P live X)) (f : FuncId) : Option (List V → St → (V × St → Option β) → Option β) :=
  match X.h f with
  | some R => some (runXE β R)
  | none => bif ioB live f then some (lookHE P live X β hs f) else none
theorem lookH_ok {β : Type} (hs : List (HEnt P live X)) : KE (CallT P live X).ch (lookH P live X β hs) := by
  intro f
  cases hXf : X.h f with
  | some R => exact .inr ⟨runX R, runXE β R, by simp only [CallT, callH, hXf], by simp only [lookH, hXf], fun a s k r h => runXE_ok R a s k r h⟩
  | none =>
  cases hio : ioB live f with
  | false => exact .inl ⟨by simp only [CallT, callH, hXf, hio, cond_false], by simp only [lookH, hXf, hio, cond_false]⟩
  | true =>
    cases hdf : dfB live f with
    | true => exact .inr ⟨runHD P (fzL live) (Exec P live X) f, lookHE P live X β hs f, by simp only [CallT, callH, hXf, hio, hdf, cond_true], by simp only [lookH, hXf, hio, cond_true], fun a s k r h => by have := lookHE_ok P live X hs f a s k r h; rwa [hdf, cond_true] at this⟩
    | false => exact .inr ⟨runH P (fzL live) (Exec P live X) f, lookHE P live X β hs f, by simp only [CallT, callH, hXf, hio, hdf, cond_true, cond_false], by simp only [lookH, hXf, hio, cond_true], fun a s k r h => by have := lookHE_ok P live X hs f a s k r h; rwa [hdf, cond_false] at this⟩
/-- a table's row for a loop -/
noncomputable def semL (f nt : Nat) (g : Bool) (c : Code) (s : St) : Option (Nat × St) := match g with
  | true => stepC P (live f) (CallT P live X) nt (Exec P live X f nt) c (cutS (live f) c s)
  | false => stepC P (live f) (CallT P live X) nt (Exec P live X f nt) (.loop c) s
structure LEnt (f nt : Nat) : Type 1 where
  g : Bool
  id : Nat
  c : Code
  run : (β : Type) → LS → (Nat × LS → Option β) → Option β
  ok : ∀ {β : Type} {s : LS} {k : Nat × LS → Option β} {r : β}, run β s k = some r → ∃ n s', semL P live X f nt g c s.st = some (n, s'.st) ∧ k (n, s') = some r
def bEq : Bool → Bool → Bool
  | true, true => true
  | false, false => true
  | _, _ => false
theorem bEq_iff {a b : Bool} : bEq a b = true ↔ a = b := by cases a <;> cases b <;> simp [bEq]
def lookL (β : Type) {f nt : Nat} : List (LEnt P live X f nt) → Bool → Nat → LS → (Nat × LS → Option β) → Option β
  | [], _, _, _, _ => none
  | e :: es, g, id, s, k => bif bEq g e.g && id == e.id then e.run β s k else lookL β es g id s k
/-- loops and pieces found by their first region -/
def allL {f nt : Nat} (es : List (LEnt P live X f nt)) (g : Bool) : List Code → Prop
  | [] => True
  | L :: Ls => (∃ e, es.find? (fun e => bEq g e.g && fstRegion L == some e.id) = some e ∧ e.c = L) ∧ allL es g Ls
theorem lookL_ok {β : Type} {f nt : Nat} {g : Bool} : ∀ (es : List (LEnt P live X f nt)) (L : Code) (e : LEnt P live X f nt), es.find? (fun e => bEq g e.g && fstRegion L == some e.id) = some e → e.c = L → ∀ id, fstRegion L = some id → ∀ s k r, lookL P live X β es g id s k = some r → ∃ n s', semL P live X f nt g L s.st = some (n, s'.st) ∧ k (n, s') = some r
  | [], L, e, h, _, _, _, _, _, _, _ => by simp at h
  | e0 :: es, L, e, h, hc, id, hid, s, k, r, hr => by
    rw [List.find?_cons] at h
    unfold lookL at hr
    rw [hid] at h
    by_cases hi : (bEq g e0.g && id == e0.id) = true
    · have hi' : (bEq g e0.g && some id == some e0.id) = true := by simpa using hi
      rw [hi'] at h
      simp only [Option.some.injEq] at h
      subst h
      rw [hi, cond_true] at hr
      obtain ⟨n, s', h1, h2⟩ := e0.ok hr
      rw [Bool.and_eq_true] at hi
      rw [hc, ← bEq_iff.1 hi.1] at h1
      exact ⟨n, s', h1, h2⟩
    · have h1 : (bEq g e0.g && id == e0.id) = false := by simpa using hi
      have h2 : (bEq g e0.g && some id == some e0.id) = false := by simpa using hi
      rw [h2] at h
      rw [h1, cond_false] at hr
      exact lookL_ok es L e (by rw [hid]; exact h) hc id hid s k r hr
theorem allL_ok {β : Type} {f nt : Nat} {g : Bool} {es : List (LEnt P live X f nt)} : ∀ {Ls : List Code}, allL P live X es g Ls → ∀ L ∈ Ls, ∀ id, fstRegion L = some id → ∀ s k r, lookL P live X β es g id s k = some r → ∃ n s', semL P live X f nt g L s.st = some (n, s'.st) ∧ k (n, s') = some r
  | [], _, L, hL => by simp at hL
  | L0 :: Ls, h, L, hL => by
    rcases List.mem_cons.1 hL with e | hL
    · subst e
      obtain ⟨⟨e, h1, h2⟩, _⟩ := h
      exact lookL_ok P live X es L e h1 h2
    · exact allL_ok h.2 L hL
def lentS {σ ω : Type} {f nt : Nat} (id : Nat) (c : Code) (s : SC σ) (o : OC ω) (g : σ → Option ω) (hg : ∀ x r, g x = some r → loopFrom P live X f nt c (s.c.enc x).st = some ((o.enc r).1, (o.enc r).2.st)) : LEnt P live X f nt where
  g := false
  id := id
  c := c
  run β ls k := canK (headOf live f c) (headS live f c ls.st) fun ls => s.c.dec β ls fun x => (g x).bind fun r => o.go β r k
  ok h := by
    obtain ⟨l1, h1, h2⟩ := canK_ok h
    obtain ⟨x, e, h3⟩ := s.c.ok h2
    clear h h2
    have h := h3
    subst e
    simp only [o.go_eq] at h
    cases hx : g x with
    | none => rw [hx] at h; cases h
    | some r =>
      rw [hx] at h
      refine ⟨_, _, ?_, h⟩
      simp only [semL]
      rw [stepC_from, h1]
      exact hg x r hx
variable {P live X}
/-- a function's tree -/
theorem fS_tree {τ ρ : Type} {f : FuncId} {ca : Cod (List V) τ} {cr : Cod (V × List B) ρ} {x : τ} {r : ρ} {fn : Func} {c : Code} {es : List (Ent P live X)} {hs : List (HEnt P live X)} (ls : List (LEnt P live X f fn.ntmps))
    (hf : P.funcs[f]? = some fn) (hb : fn.body = some c) (hn : (fn.name == "runtime.NumGoroutine") = false) (hX : X.c f (ca.enc x) = none) (ha : decide ((ca.enc x).length ≤ fn.ntmps) = true) (hd : allDraw P (ioB live) (live f) c = true) (hl : allL P live X ls false (loopsOf (live f) c)) (hg : allL P live X ls true (segsOf (live f) c))
    {t : Option ρ} (ht : codeL P (ioB live) (live f) (look P live X ρ es) (lookH P live X ρ hs) fn.ntmps (lookL P live X ρ ls false) (lookL P live X ρ ls true) c ⟨en (ca.enc x) 0, [], [], []⟩ (fun y => (endF P (fzL live f) fn (y.1, y.2.st)).bind fun z => cr.dec ρ z some) = t) (h : t = some r) : fS P live X f ca cr x = some r := by
  refine fS_of ?_
  rw [h] at ht
  obtain ⟨n, s', h1, h2⟩ := codeL_ok P (call := CallT P live X) (fun f a k r => look_ok P live X es f a k r) (lookH_ok P live X hs) c hd (allL_ok P live X hl) (allL_ok P live X hg) _ _ _ ht
  refine Call_ev hf hb hn hX ha ?_
  rw [st0_eq, h1]
  cases he : endF P (fzL live f) fn (n, s'.st) with
  | none => simp only [he] at h2; cases h2
  | some z =>
    simp only [he, Option.bind_some] at h2
    obtain ⟨y, e, h2⟩ := cr.ok h2
    injection h2 with h2
    simp only [Option.bind_some, he, e, h2]
/-- a loop's tree -/
theorem lS_tree {σ ω : Type} {f nt : Nat} {c : Code} {s : SC σ} {o : OC ω} {x : σ} {r : ω} {es : List (Ent P live X)} {hs : List (HEnt P live X)} (ls : List (LEnt P live X f nt)) (hd : allDraw P (ioB live) (live f) c = true) (hl : allL P live X ls false (loopsOf (live f) c)) (hg : allL P live X ls true (segsOf (live f) c))
    {t : Option ω} (ht : codeL P (ioB live) (live f) (look P live X ω es) (lookH P live X ω hs) nt (lookL P live X ω ls false) (lookL P live X ω ls true) c (s.c.enc x) (fun y => match y with
      | (0, l) => canK (headOf live f c) (headS live f c l.st) fun l => s.c.dec ω l fun x => lS P live X f nt c s o x
      | (n + 1, l) => o.dec ω (n + 1, l) some) = t) (h : t = some r) : lS P live X f nt c s o x = some r := by
  refine lS_of ?_
  rw [h] at ht
  obtain ⟨n, s', h1, h2⟩ := codeL_ok P (call := CallT P live X) (fun f a k r => look_ok P live X es f a k r) (lookH_ok P live X hs) c hd (allL_ok P live X hl) (allL_ok P live X hg) _ _ _ ht
  unfold loopFrom
  rw [h1]
  simp only [Option.bind_some]
  cases n with
  | zero =>
    simp only [if_true]
    obtain ⟨l1, e1, h4⟩ := canK_ok h2
    obtain ⟨y, e2, h5⟩ := s.c.ok h4
    subst e2
    have h3 := lS_from h5
    apply Exec_step
    rw [stepC_from, e1]
    exact h3
  | succ n =>
    simp only [Nat.succ_ne_zero, if_false]
    obtain ⟨y, e, h2⟩ := o.ok h2
    injection h2 with h2
    rw [← h2, ← e]
end
/-- results of functions on the caller's heap -/
structure HC (ρ : Type) : Type 1 where
  enc : ρ → V × LS
  dec : (β : Type) → V × LS → (ρ → Option β) → Option β
  ok : ∀ {β : Type} {r : V × LS} {k : ρ → Option β} {b : β}, dec β r k = some b → ∃ x, r = enc x ∧ k x = some b
  inj : ∀ {x y : ρ}, (enc x).1 = (enc y).1 → (enc x).2.st = (enc y).2.st → x = y
def hPair {τ σ : Type} (c : Cod V τ) (s : SC σ) : HC (τ × σ) where
  enc x := (c.enc x.1, s.c.enc x.2)
  dec β r f := match r with | (y, l) => c.dec β y fun a => s.c.dec β l fun b => f (a, b)
  ok h := by
    obtain ⟨x, e, h⟩ := c.ok h
    obtain ⟨z, e', h⟩ := s.c.ok h
    exact ⟨(x, z), by rw [← e, ← e'], h⟩
  inj h1 h2 := Prod.ext (c.inj h1) (s.inj h2)
section
variable (P : Program) (live : FuncId → Nat → List Nat) (X : XT)
noncomputable def hS {σ ρ : Type} (f : FuncId) (s : SC σ) (o : HC ρ) (x : σ) : Option ρ := pick fun r => heapFrom P live X f (s.c.enc x).st = some ((o.enc r).1, (o.enc r).2.st)
noncomputable def hentS {σ ρ : Type} (f : FuncId) (key : List Nat) (s : SC σ) (o : HC ρ) (g : σ → Option ρ) (hg : ∀ x r, g x = some r → heapFrom P live X f (s.c.enc x).st = some ((o.enc r).1, (o.enc r).2.st)) : HEnt P live X where
  f := f
  key := key
  run β ls k := s.c.dec β ls fun x => (g x).bind fun r => k ((o.enc r).1, (o.enc r).2.st)
  ok h := by
    obtain ⟨x, e, h3⟩ := s.c.ok h
    cases hx : g x with
    | none => rw [hx] at h3; cases h3
    | some r =>
      rw [hx] at h3
      refine ⟨_, ?_, h3⟩
      rw [e]
      exact hg x r hx
variable {P live X}
theorem hS_of {σ ρ : Type} {f : FuncId} {s : SC σ} {o : HC ρ} {x : σ} {r : ρ} (h : heapFrom P live X f (s.c.enc x).st = some ((o.enc r).1, (o.enc r).2.st)) : hS P live X f s o x = some r := pick_of h fun b hb => by
  rw [h] at hb
  injection hb with hb
  injection hb with h1 h2
  exact (o.inj h1 h2).symm
theorem hS_from {σ ρ : Type} {f : FuncId} {s : SC σ} {o : HC ρ} {x : σ} {r : ρ} (h : hS P live X f s o x = some r) : heapFrom P live X f (s.c.enc x).st = some ((o.enc r).1, (o.enc r).2.st) := pick_spec (p := fun r => heapFrom P live X f (s.c.enc x).st = some ((o.enc r).1, (o.enc r).2.st)) h
/-- a tree of a function on the caller's heap -/
theorem hS_tree {σ ρ : Type} {f : FuncId} {s : SC σ} {o : HC ρ} {x : σ} {r : ρ} {fn : Func} {c : Code} {es : List (Ent P live X)} {hs : List (HEnt P live X)} (ls : List (LEnt P live X f fn.ntmps))
    (hb : bodyOf P f = some fn) (hc : fn.body = some c) (hdf : dfB live f = false) (hd : allDraw P (ioB live) (live f) c = true) (hl : allL P live X ls false (loopsOf (live f) c)) (hg : allL P live X ls true (segsOf (live f) c))
    {t : Option ρ} (ht : codeL P (ioB live) (live f) (look P live X ρ es) (lookH P live X ρ hs) fn.ntmps (lookL P live X ρ ls false) (lookL P live X ρ ls true) c (s.c.enc x) (fun y => if y.1 ≤ 1 then (resV P fn y.2.st).bind fun vs => (finH (fzL live f) y.2.st vs).bind fun z => canK (List.range z.1.length) { z.2 with t := fun i => z.1.getD i .any } fun ls => o.dec ρ (oneOrTup ((List.range z.1.length).map ls.st.t), ls) some else none) = t) (h : t = some r) : hS P live X f s o x = some r := by
  refine hS_of ?_
  rw [h] at ht
  obtain ⟨n, s', h1, h2⟩ := codeL_ok P (call := CallT P live X) (fun f a k r => look_ok P live X es f a k r) (lookH_ok P live X hs) c hd (allL_ok P live X hl) (allL_ok P live X hg) _ _ _ ht
  have h3 := Exec_step P live X h1
  unfold heapFrom
  rw [hb]
  simp only [Option.bind_some, hc, hdf, cond_false, h3]
  simp only at h2
  split at h2
  case isFalse => cases h2
  rename_i hn
  simp only [hn, if_true]
  cases hv : resV P fn s'.st with
  | none => rw [hv] at h2; cases h2
  | some vs =>
    rw [hv] at h2
    simp only [Option.bind_some] at h2 ⊢
    cases hz : finH (fzL live f) s'.st vs with
    | none => rw [hz] at h2; cases h2
    | some z =>
    rw [hz] at h2
    simp only [Option.bind_some] at h2
    obtain ⟨l1, e1, h2⟩ := canK_ok h2
    obtain ⟨y, e, h2⟩ := o.ok h2
    injection h2 with h2
    subst h2
    have e1' : endN z.1 z.2 = l1.st := e1
    simp only [Option.map_some, ← e, e1']
end
section
variable (P : Program) {β : Type}
end
section
variable {P : Program} {live : FuncId → Nat → List Nat} {X : XT}
end
end Go.Proofs.YtomnbknaanlmaaaGreatDoor
