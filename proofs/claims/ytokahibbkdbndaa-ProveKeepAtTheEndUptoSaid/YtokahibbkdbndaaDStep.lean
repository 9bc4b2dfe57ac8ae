/- One operation of the machine is one operation of the model. -/
import Derived.Test.YtokahibbkdbndaaDHeap
namespace Go.Proofs.Ytokahibbkdbndaa
open Go.RowKit
section
variable {P : Program} {Z Y : ZMap} {m : Nat → Option Value} {w0 : WB} {w w' : World} {h hv : Nat → Option B} {sh : Nat → Bool}

theorem ev2_sim {a : Act} {r : Operand → V} (hρ : ∀ x, Rep Z Y m (a.eval x) (r x)) (R : Rel w0 Z Y m h sh w) {o : Oper} {base : Nat} (hmb : m base = none) (hhb : h base = none) {res : V × (Nat → Option B) × (Nat → Bool)} (hev : ev2 P h sh r base o.op = some res) {K : Act → World → Prop} {Q : Exit → Act → World → Prop}
    (hK : ∀ cv w' Z' m', ZUp w0 Z Z' → MLe m m' → (∀ i, m' i ≠ none → m i ≠ none ∨ i = base) → Rel w0 Z' Y m' res.2.1 res.2.2 w' → Rep Z' Y m' cv res.1 → K (a.put o.dst cv) w') : o.wp P a w K Q := by
  obtain ⟨dst, op, ty, pos, aft, gd⟩ := o
  simp only at hev hK
  unfold ev2 at hev
  split at hev
  · rename_i t x v
    cases hst : storeV P h sh t (r x) (r v) with
    | none => rw [hst] at hev; cases hev
    | some y =>
      rw [hst] at hev
      injection hev with hev; subst hev
      obtain ⟨Z', w1, u1, R1, hrun⟩ := storeV_sim R hst (hρ x) (hρ v)
      unfold Oper.wp
      have : (execOp a.eval { dst := dst, op := .store t x v, type := ty, pos := pos, after := aft, guard := gd }).run P w = .ok .skip w1 := by simp only [execOp, Sem.run_bind, hrun, Result.andThen_ok, Sem.run_pure]
      rw [this]
      exact hK undef w1 Z' m u1 (MLe.refl m) (fun i hi => .inl hi) R1 (.any _)
  · rename_i args ats
    split at hev
    · rename_i t t' s x ht hs
      split at hev
      · rename_i e e' hu hu'
        obtain ⟨Z', w1, cv, mv, u1, R1, r1, hrun⟩ := apdV_sim (ty := ty) R hu hu' hmb hhb hev (hρ s) (hρ x)
        have ea : args = #[s, x] := by rw [← Array.toList_inj]; exact hs
        have et : ats = #[t, t'] := by rw [← Array.toList_inj]; exact ht
        subst ea et
        refine wp_value (cv := cv) (w' := w1) ?_ (hK cv w1 Z' _ u1 (MLe.up hmb) (fun i hi => ?_) R1 r1)
        · simp only [execOp, resolve, invoke, builtin, Sem.run_bind, Sem.run_pure, Result.andThen_ok, List.map_toArray, List.map_cons, List.map_nil, hrun]
        · by_cases e : i = base
          · exact .inr e
          · left; simpa [upd, e] using hi
      · cases hev
    · cases hev
  · cases hev

/-- a frame of the machine and one of the model -/
structure FrS (G : Nat → Option Value) (w0 : WB) (Z Y : ZMap) (m : Nat → Option Value) (nt : Nat) (s : St) (a : Act) (w : World) : Prop where
  fr : Fr Z Y m nt s.t a
  rel : Rel w0 Z Y m s.h s.sh w
  og : ∀ (i id : Nat) (v : Value), s.og[i]? = some id → G i = some v → m id = some v
theorem og_le {G m m' : Nat → Option Value} {og : List Nat} (h : ∀ (i id : Nat) (v : Value), og[i]? = some id → G i = some v → m id = some v) (hm : MLe m m') : ∀ (i id : Nat) (v : Value), og[i]? = some id → G i = some v → m' id = some v := fun i id v a b => hm _ _ (h i id v a b)

theorem wanted_sim {nt : Nat} {t : Nat → V} {a : Act} {ops : Array Oper} {o : Oper} {b : Bool} (hf : Fr Z Y m nt t a) (hw : wantedV ops t o = some b) : Region.wanted o (yielded ops a.tmps) = b := by
  unfold wantedV at hw
  unfold Region.wanted
  cases hg : o.guard with
  | none => rw [hg] at hw; injection hw
  | some gw =>
    obtain ⟨j, want⟩ := gw
    rw [hg] at hw
    simp only at hw ⊢
    cases hd : (ops[j]?).bind (·.dst) with
    | none => rw [hd] at hw; cases hw
    | some d =>
      rw [hd] at hw
      simp only [Option.map_some] at hw
      have hr := hf.rep d
      unfold yielded
      rw [hd]
      simp only [Option.bind_some]
      rw [Array.getD_eq_getD_getElem?] at hr
      split at hw
      · rename_i q hq
        injection hq with hq
        rw [hq] at hr
        have := rep_bool hr
        cases hx : a.tmps[d]? with
        | none => rw [hx] at this; cases this
        | some u =>
          rw [hx] at this
          simp only [Option.getD_some] at this
          subst this
          injection hw with hw
      · rename_i vs hq
        injection hq with hq
        rw [hq] at hr
        injection hw with hw
        subst hw
        cases hx : a.tmps[d]? with
        | none => rfl
        | some u =>
          rw [hx] at hr
          simp only [Option.getD_some] at hr
          cases hr
          rfl
      · cases hw

theorem isIo_no {o : Op} : isIo (fun _ => false) o = false := by unfold isIo; split <;> rfl
theorem opD_sim {G : Nat → Option Value} {hp : HP} (hcall : ∀ g args res, hp.call g args = some res → CallOk P g args res) {nt : Nat} {ops : Array Oper} {o : Oper} (hch : isIo hp.io o.op = true → ∀ f g args s0 v s1, hp.ch f = some g → g args s0 = some (v, s1) → HeapOk P f args s0 v s1) (hN : isIo hp.io o.op = true → ∀ i, m i ≠ none → i < hp.N) {base : Nat} {s s' : St} {a : Act} (F : FrS G w0 Z Y m nt s a w) (hs : ∀ id b, hv id = some b → s.h id = some b) (hfr : ∀ i, base ≤ i → i < base + 8 → m i = none ∧ s.h i = none)
    (hst : opD P hp nt ops hv base o s = some s') {K : Act → World → Prop} {Q : Exit → Act → World → Prop}
    (hK : ∀ a' w' Z' m', ZUp w0 Z Z' → MLe m m' → (∀ i, m' i ≠ none → m i ≠ none ∨ (base ≤ i ∧ i < base + 8)) → FrS G w0 Z' Y m' nt s' a' w' → K a' w') :
    if Region.wanted o (yielded ops a.tmps) then o.wp P a w K Q else K (a.put o.dst undef) w := by
  unfold opD at hst
  split at hst
  case isFalse => cases hst
  rename_i hd
  cases hw : wantedV ops s.t o with
  | none => rw [hw] at hst; cases hst
  | some b =>
    rw [hw] at hst
    simp only [Option.bind_some] at hst
    rw [wanted_sim F.fr hw]
    cases b with
    | false =>
      simp only [Bool.false_eq_true, if_false] at hst ⊢
      injection hst with hst; subst hst
      exact hK _ _ Z m ZUp.refl (MLe.refl m) (fun i hi => .inl hi) ⟨F.fr.put o.dst hd (.tup #[] [] rfl (by simp)), F.rel, F.og⟩
    | true =>
      simp only [if_true] at hst ⊢
      split at hst
      · cases he : ev0 P (rho s.t) o.op with
        | none => rw [he] at hst; cases hst
        | some v =>
          rw [he] at hst
          injection hst with hst; subst hst
          obtain ⟨cv, h1, h2⟩ := ev0_sim (fun x => F.fr.eval x) he
          exact wp_value (h2 w) (hK _ _ Z m ZUp.refl (MLe.refl m) (fun i hi => .inl hi) ⟨F.fr.put o.dst hd h1, F.rel, F.og⟩)
      · cases he : ev1 P hp.call hv (rho s.t) base o.op with
        | none => rw [he] at hst; cases hst
        | some x =>
          rw [he] at hst
          simp only [Option.bind_some] at hst
          split at hst
          · rename_i h8
            injection hst with hst; subst hst
            refine ev1_sim hcall (fun x => F.fr.eval x) F.rel hs hfr he h8 (fun cv w' Z' m' u1 u2 u3 R1 r1 => hK _ _ Z' m' u1 u2 (fun i hi => (u3 i hi).imp id (fun h => ⟨h.1, by omega⟩)) ⟨(F.fr.mono u1.le u2).put o.dst hd r1, R1, og_le F.og u2⟩)
          · cases hst
      · cases he : ev2H P hp base o.op s with
        | none => rw [he] at hst; cases hst
        | some x =>
          rw [he] at hst
          injection hst with hst; subst hst
          have hb := hfr base (Nat.le_refl _) (by omega)
          unfold ev2H at he
          cases hi : isIo hp.io o.op with
          | true =>
            rw [hi, cond_true] at he
            cases hz : ioOf P hp.ch (rho s.t) o.op with
            | none => rw [hz] at he; cases he
            | some z =>
              obtain ⟨f, g, as⟩ := z
              rw [hz] at he
              simp only [Option.bind_some] at he
              exact heapD_sim (hch hi) (fun x => F.fr.eval x) F.rel (hN hi) hz hfr he (fun cv w' Z' m' u1 u2 u3 R1 r1 => hK _ _ Z' m' u1 u2 u3 ⟨(F.fr.mono u1.le u2).put o.dst hd r1, R1, og_le F.og u2⟩)
          | false =>
          rw [hi, cond_false] at he
          exact ev2_sim (fun x => F.fr.eval x) F.rel hb.1 hb.2 he (fun cv w' Z' m' u1 u2 u3 R1 r1 => hK _ _ Z' m' u1 u2 (fun i hi => (u3 i hi).imp id (fun h => ⟨by omega, by omega⟩)) ⟨(F.fr.mono u1.le u2).put o.dst hd r1, R1, og_le F.og u2⟩)

end
end Go.Proofs.Ytokahibbkdbndaa
