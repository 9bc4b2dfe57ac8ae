/- The machine without fuel. -/
import Derived.Test.YtomnbknaanlmaaaGreatDoorDSound
namespace Go.Proofs.YtomnbknaanlmaaaGreatDoor
open Go.RowKit
section
variable {P : Program} {cn : Nat → FuncId → List V → Option (V × List B)} {c0 : FuncId → List V → Option (V × List B)}
/-- from some fuel on -/
def Ult {α : Type} (x : Nat → Option α) (r : α) : Prop := ∃ N, ∀ n, N ≤ n → x n = some r
theorem Ult.const {α : Type} {x : Option α} {r : α} (h : x = some r) : Ult (fun _ => x) r := ⟨0, fun _ _ => h⟩
theorem Ult.bind {α β : Type} {x : Nat → Option α} {f : Nat → α → Option β} {a : α} {b : β} (h1 : Ult x a) (h2 : Ult (fun n => f n a) b) : Ult (fun n => (x n).bind (f n)) b := by
  obtain ⟨N, h1⟩ := h1
  obtain ⟨M, h2⟩ := h2
  exact ⟨max N M, fun n hn => by simp only [h1 n (by omega), Option.bind_some]; exact h2 n (by omega)⟩
theorem Ult.map {α β : Type} {x : Nat → Option α} {f : α → β} {a : α} (h1 : Ult x a) : Ult (fun n => (x n).map f) (f a) := by
  obtain ⟨N, h1⟩ := h1
  exact ⟨N, fun n hn => by simp only [h1 n hn, Option.map_some]⟩
theorem ev1_app (hc : ∀ f args r, c0 f args = some r → Ult (fun n => cn n f args) r) {hv : Nat → Option B} {r : Operand → V} {base : Nat} {o : Op} {x : V × List B × List Nat} (h : ev1 P c0 hv r base o = some x) : Ult (fun n => ev1 P (cn n) hv r base o) x := by
  unfold ev1 at h
  split at h
  case h_9 f args ats =>
    split at h
    · rename_i g caps hf
      cases hb : bodyOf P (cFn g) with
      | none => rw [hb] at h; cases h
      | some fn =>
        rw [hb] at h
        simp only [Option.bind_some] at h
        cases hx : frzAs hv (args.toList.map r) with
        | none => rw [hx] at h; cases h
        | some x' =>
          rw [hx] at h
          simp only [Option.bind_some] at h
          cases hy : frzPs hv caps with
          | none => rw [hy] at h; cases h
          | some y =>
            rw [hy] at h
            simp only [Option.bind_some] at h
            cases hz : c0 (cFn g) (cAr g x'.1 y.1) with
            | none => rw [hz] at h; cases h
            | some z =>
              rw [hz] at h
              simp only [Option.bind_some] at h
              obtain ⟨N, hN⟩ := hc (cFn g) _ z hz
              refine ⟨N, fun n hn => ?_⟩
              simp only [ev1, hf, hb, hx, hy, hN n hn, Option.bind_some]
              exact h
    · cases h
  all_goals first
    | (exact Ult.const h)
    | (cases h; done)
/-- calls on the caller's heap, with growing fuel -/
def KApp (k0 : FuncId → Option (List V → St → Option (V × St))) (kn : Nat → FuncId → Option (List V → St → Option (V × St))) : Prop :=
  ∀ f, (k0 f = none ∧ ∀ n, kn n f = none) ∨ ∃ (g : List V → St → Option (V × St)) (gn : Nat → List V → St → Option (V × St)), k0 f = some g ∧ (∀ n, kn n f = some (gn n)) ∧ ∀ args s r, g args s = some r → Ult (fun n => gn n args s) r
theorem ioOf_app {k0 : FuncId → Option (List V → St → Option (V × St))} {kn : Nat → FuncId → Option (List V → St → Option (V × St))} (hk : KApp k0 kn) (r : Operand → V) (o : Op) :
    (ioOf P k0 r o = none ∧ ∀ n, ioOf P (kn n) r o = none) ∨ ∃ (f : FuncId) (g : List V → St → Option (V × St)) (gn : Nat → List V → St → Option (V × St)) (args : List V), ioOf P k0 r o = some (f, g, args) ∧ (∀ n, ioOf P (kn n) r o = some (f, gn n, args)) ∧ ∀ args s r, g args s = some r → Ult (fun n => gn n args s) r := by
  by_cases h : ∃ f args ats, o = .call { callee := .value f, args := args, argTypes := ats }
  · obtain ⟨f, args, ats, rfl⟩ := h
    simp only [ioOf]
    split
    · rename_i g caps _
      cases bodyOf P (cFn g) with
      | none => exact .inl ⟨rfl, fun _ => rfl⟩
      | some fn =>
        simp only [Option.bind_some]
        rcases hk (cFn g) with ⟨h1, h2⟩ | ⟨g', gn, h1, h2, h3⟩
        · exact .inl ⟨by rw [h1]; rfl, fun n => by rw [h2 n]; rfl⟩
        · exact .inr ⟨cFn g, g', gn, _, by rw [h1]; rfl, fun n => by rw [h2 n]; rfl, h3⟩
    · exact .inl ⟨rfl, fun _ => rfl⟩
  · refine .inl ⟨?_, fun n => ?_⟩ <;> · unfold ioOf; split; (exact absurd ⟨_, _, _, rfl⟩ h); rfl
theorem heapD_app {g : List V → St → Option (V × St)} {gn : Nat → List V → St → Option (V × St)} (h3 : ∀ args s r, g args s = some r → Ult (fun n => gn n args s) r) {args : List V} {N : Nat} {lv : List Nat} {base : Nat} {s : St} {y : V × (Nat → Option B) × (Nat → Bool)} (h : heapD g args N lv base s = some y) : Ult (fun n => heapD (gn n) args N lv base s) y := by
  unfold heapD at h ⊢
  cases hg : g args { t := fun _ => .any, h := onlyB (reach s.h args) s.h, sh := s.sh, nx := N, lr := fun _ => [], lw := fun _ => [], og := ogK (reach s.h args) lv s } with
  | none => rw [hg] at h; cases h
  | some x =>
    rw [hg] at h
    simp only [Option.bind_some] at h
    exact (h3 _ _ _ hg).bind (Ult.const h)
theorem KApp.no : KApp (fun _ => none) (fun _ _ => none) := fun _ => .inl ⟨rfl, fun _ => rfl⟩
section
variable {k0 : FuncId → Option (List V → St → Option (V × St))} {kn : Nat → FuncId → Option (List V → St → Option (V × St))} {io : FuncId → Bool} {lvf : Nat → List Nat} {N : Nat}
theorem opD_app (hc : ∀ f args r, c0 f args = some r → Ult (fun n => cn n f args) r) (hk : KApp k0 kn) {nt : Nat} {ops : Array Oper} {hv : Nat → Option B} {base : Nat} {o : Oper} {s s' : St} (h : opD P ⟨c0, io, k0, lvf, N⟩ nt ops hv base o s = some s') : Ult (fun n => opD P ⟨cn n, io, kn n, lvf, N⟩ nt ops hv base o s) s' := by
  unfold opD at h ⊢
  split at h
  case isFalse => cases h
  rename_i hd
  simp only [hd, if_true]
  cases hw : wantedV ops s.t o with
  | none => rw [hw] at h; cases h
  | some b =>
    rw [hw] at h
    simp only [Option.bind_some] at h ⊢
    cases b with
    | false => exact Ult.const h
    | true =>
      simp only [if_true] at h ⊢
      generalize kindB P io ops o.op = kk at h ⊢
      rcases kk with _ | _ | kk
      · exact Ult.const h
      · simp only [Nat.zero_add] at h ⊢
        cases he : ev1 P c0 hv (rho s.t) base o.op with
        | none => rw [he] at h; cases h
        | some x =>
          rw [he] at h
          simp only [Option.bind_some] at h
          exact (ev1_app hc he).bind (Ult.const h)
      · simp only [ev2H] at h ⊢
        cases hio : isIo io o.op with
        | false =>
          simp only [hio, cond_false] at h ⊢
          exact Ult.const h
        | true =>
          simp only [hio, cond_true] at h ⊢
          rcases ioOf_app (P := P) hk (rho s.t) o.op with ⟨h1, h2⟩ | ⟨f, g, gn, args, h1, h2, h3⟩
          · rw [h1] at h; cases h
          · simp only [h1, h2, Option.bind_some] at h ⊢
            cases hy : heapD g args N (lvf base) base s with
            | none => rw [hy] at h; cases h
            | some y =>
              rw [hy] at h
              injection h with h; subst h
              exact (heapD_app h3 hy).map
theorem stepD_app (hc : ∀ f args r, c0 f args = some r → Ult (fun n => cn n f args) r) (hk : KApp k0 kn) {nt : Nat} {ops : Array Oper} {an : Nat → Nat} {rb j : Nat} {o : Oper} {s s' : St} (h : stepD P ⟨c0, io, k0, lvf, N⟩ nt ops an rb j o s = some s') : Ult (fun n => stepD P ⟨cn n, io, kn n, lvf, N⟩ nt ops an rb j o s) s' := by
  unfold stepD at h ⊢
  split at h
  case isFalse => cases h
  rename_i hd
  simp only [hd, if_true]
  cases he : opD P ⟨c0, io, k0, lvf, N⟩ nt ops (visB s.h rb (an j)) (rb + 8 * j) o s with
  | none => rw [he] at h; cases h
  | some s1 =>
    rw [he] at h
    injection h with h; subst h
    exact (opD_app hc hk he).map
theorem runD_app (hc : ∀ f args r, c0 f args = some r → Ult (fun n => cn n f args) r) (hk : KApp k0 kn) {nt : Nat} {ops : Array Oper} {an : Nat → Nat} {rb : Nat} : ∀ (l : List Nat) {s s' : St}, runD P ⟨c0, io, k0, lvf, N⟩ nt ops an rb l s = some s' → Ult (fun n => runD P ⟨cn n, io, kn n, lvf, N⟩ nt ops an rb l s) s'
  | [], s, s', h => Ult.const h
  | j :: l, s, s', h => by
    simp only [runD] at h ⊢
    cases ho : ops[j]? with
    | none => rw [ho] at h; cases h
    | some o =>
      rw [ho] at h
      simp only [Option.bind_some] at h ⊢
      cases hs : stepD P ⟨c0, io, k0, lvf, N⟩ nt ops an rb j o s with
      | none => rw [hs] at h; cases h
      | some s1 =>
        rw [hs] at h
        exact (stepD_app hc hk hs).bind (runD_app hc hk l h)
end
theorem runN_app (hc : ∀ f args r, c0 f args = some r → Ult (fun n => cn n f args) r) {k0 : FuncId → Option (List V → St → Option (V × St))} {kn : Nat → FuncId → Option (List V → St → Option (V × St))} (hk : KApp k0 kn) {lv : Nat → List Nat} {nt : Nat} {ops : Array Oper} : ∀ (l : List Oper) {jj base : Nat} {s s' : St}, runN P c0 k0 lv nt ops l jj base s = some s' → Ult (fun n => runN P (cn n) (kn n) lv nt ops l jj base s) s'
  | [], _, _, s, s', h => Ult.const h
  | o :: l, jj, base, s, s', h => by
    rcases ioOf_app (P := P) hk (rho s.t) o.op with ⟨h1, h2⟩ | ⟨f, g, gn, args, h1, h2, h3⟩
    · simp only [runN, h1, h2] at h ⊢
      cases hs : opD P (hp0 c0) nt ops s.h base o s with
      | none => rw [hs] at h; cases h
      | some s1 =>
        rw [hs] at h
        exact (opD_app hc KApp.no hs).bind (runN_app hc hk l h)
    · simp only [runN, h1, h2] at h ⊢
      split at h
      case isFalse => cases h
      rename_i hd
      simp only [hd, if_true]
      cases hw : wantedV ops s.t o with
      | none => rw [hw] at h; cases h
      | some b =>
        rw [hw] at h
        simp only [Option.bind_some] at h ⊢
        cases b with
        | false => exact runN_app hc hk l h
        | true =>
          simp only [if_true] at h ⊢
          cases hy : heapD g args base (lv jj) base s with
          | none => rw [hy] at h; cases h
          | some y =>
            rw [hy] at h
            simp only [Option.bind_some] at h
            exact (heapD_app h3 hy).bind (runN_app hc hk l h)
theorem stepC_app {c0 : CT} {cn : Nat → CT} (hc : ∀ f args r, c0.call f args = some r → Ult (fun n => (cn n).call f args) r) (hk : KApp c0.ch (fun n => (cn n).ch)) (hio : ∀ n, (cn n).io = c0.io) {live : Nat → List Nat} {nt : Nat} {an : Nat → Code → St → Option (Nat × St)} {a0 : Code → St → Option (Nat × St)} (ha : ∀ c s r, a0 c s = some r → Ult (fun n => an n c s) r) :
    ∀ (c : Code) (s : St) (r : Nat × St), stepC P live c0 nt a0 c s = some r → Ult (fun n => stepC P live (cn n) nt (an n) c s) r := by
  intro c
  induction c with
  | region id ops draw =>
    intro s r h
    cases draw with
    | false =>
      simp only [stepC] at h ⊢
      cases hr : runN P c0.call c0.ch (fun j => live (3000000 + 1000 * id + j)) nt ops ops.toList 0 s.nx s with
      | none => rw [hr] at h; cases h
      | some s' =>
        rw [hr] at h
        injection h with h; subst h
        exact (runN_app hc hk _ hr).map
    | true =>
      simp only [stepC] at h ⊢
      split at h
      · rename_i hd
        simp only [hio, hd, if_true]
        cases hr : runD P ⟨c0.call, ioR live id c0.io, c0.ch, lvD (ioR live id c0.io) (fun j => live (3000000 + 1000 * id + j)) ops s.nx, s.nx + 8 * ops.size⟩ nt ops (anOf ops) s.nx (List.range ops.size) { s with lr := fun _ => [], lw := fun _ => [] } with
        | none => rw [hr] at h; cases h
        | some s' =>
          rw [hr] at h
          injection h with h; subst h
          exact (runD_app hc hk _ hr).map
      · cases h
  | seq x y ihx ihy =>
    intro s r h
    simp only [stepC] at h ⊢
    cases hx : stepC P live c0 nt a0 x s with
    | none => rw [hx] at h; cases h
    | some r1 =>
      rw [hx] at h
      simp only [Option.bind_some] at h
      refine (ihx s r1 hx).bind ?_
      split at h
      · rename_i h0; simp only [h0, if_true]; exact ihy _ r h
      · rename_i h0; simp only [h0, if_false]; exact Ult.const h
  | cond c x y ihx ihy =>
    intro s r h
    simp only [stepC] at h ⊢
    split at h
    · rename_i q hq
      cases q with
      | true => simp only [if_true] at h ⊢; exact ihx s r h
      | false => simp only [Bool.false_eq_true, if_false] at h ⊢; exact ihy s r h
    · cases h
  | block id c ih =>
    intro s r h
    simp only [stepC] at h ⊢
    cases hx : stepC P live c0 nt a0 c s with
    | none => rw [hx] at h; cases h
    | some r1 =>
      rw [hx] at h
      injection h with h; subst h
      exact (ih s r1 hx).map
  | loop c ih =>
    intro s r h
    simp only [stepC] at h ⊢
    cases hx : stepC P live c0 nt a0 c (canon (((fstRegion c).map fun id => live (2 * id)).getD []) (shareS (shq live c) s)) with
    | none => rw [hx] at h; cases h
    | some r1 =>
      rw [hx] at h
      simp only [Option.bind_some] at h
      refine (ih _ r1 hx).bind ?_
      split at h
      · rename_i h0; simp only [h0, if_true]; exact ha _ _ _ h
      · rename_i h0; simp only [h0, if_false]; exact Ult.const h
  | _ => intro s r h; exact Ult.const h
theorem callD_app {fz : FuncId → Bool} {X : FuncId → List V → Option (V × List B)} {en : Nat → FuncId → Nat → Code → St → Option (Nat × St)} {e0 : FuncId → Nat → Code → St → Option (Nat × St)} (he : ∀ f nt c s r, e0 f nt c s = some r → Ult (fun n => en n f nt c s) r) {f : FuncId} {args : List V} {r : V × List B} (h : callD P fz X e0 f args = some r) : Ult (fun n => callD P fz X (en n) f args) r := by
  unfold callD at h ⊢
  split at h
  · exact Ult.const h
  · cases hb : bodyOf P f with
    | none => rw [hb] at h; cases h
    | some fn =>
      rw [hb] at h
      simp only [Option.bind_some] at h ⊢
      split at h
      case isFalse => cases h
      rename_i hnt
      simp only [hnt, if_true]
      cases hc : fn.body with
      | none => rw [hc] at h; cases h
      | some c =>
        rw [hc] at h
        simp only [Option.bind_some] at h ⊢
        cases hx : e0 f fn.ntmps c { t := fun i => args.getD i .any, h := fun _ => none, sh := fun _ => false, nx := 0, lr := fun _ => [], lw := fun _ => [], og := [] } with
        | none => rw [hx] at h; cases h
        | some x =>
          rw [hx] at h
          exact (he _ _ _ _ _ hx).bind (Ult.const h)
theorem runH_app {fz : FuncId → Bool} {en : Nat → FuncId → Nat → Code → St → Option (Nat × St)} {e0 : FuncId → Nat → Code → St → Option (Nat × St)} (he : ∀ f nt c s r, e0 f nt c s = some r → Ult (fun n => en n f nt c s) r) {f : FuncId} {args : List V} {s : St} {r : V × St} (h : runH P fz e0 f args s = some r) : Ult (fun n => runH P fz (en n) f args s) r := by
  unfold runH at h ⊢
  cases hb : bodyOf P f with
  | none => simp only [hb] at h; cases h
  | some fn =>
    simp only [hb, Option.bind_some] at h ⊢
    split at h
    case isFalse => cases h
    rename_i hnt
    simp only [hnt, if_true]
    cases hc : fn.body with
    | none => rw [hc] at h; cases h
    | some c =>
      rw [hc] at h
      simp only [Option.bind_some] at h ⊢
      cases hx : e0 f fn.ntmps c (canon (List.range args.length) { t := fun i => args.getD i .any, h := s.h, sh := s.sh, nx := s.nx, lr := fun _ => [], lw := fun _ => [], og := s.og }) with
      | none => rw [hx] at h; cases h
      | some x =>
        rw [hx] at h
        exact (he _ _ _ _ _ hx).bind (Ult.const h)
theorem exL_app {en : Nat → Code → St → Option (Nat × St)} {e0 : Code → St → Option (Nat × St)} (he : ∀ c s r, e0 c s = some r → Ult (fun n => en n c s) r) : ∀ (l : List Code) {s : St} {r : Nat × St}, exL e0 l s = some r → Ult (fun n => exL (en n) l s) r
  | [], _, _, h => Ult.const h
  | a :: l, s, r, h => by
    simp only [exL] at h ⊢
    cases hx : e0 a s with
    | none => rw [hx] at h; cases h
    | some x =>
      rw [hx] at h
      simp only [Option.bind_some] at h
      split at h
      case isFalse => cases h
      rename_i h0
      refine (he a s x hx).bind ?_
      simp only [h0, if_true]
      exact exL_app he l h
theorem endD_app {g : List V → St → Option (V × St)} {gn : Nat → List V → St → Option (V × St)} (h3 : ∀ args s r, g args s = some r → Ult (fun n => gn n args s) r) {lv : List Nat} {s s' : St} (h : endD g lv s = some s') : Ult (fun n => endD (gn n) lv s) s' := by
  unfold endD at h ⊢
  cases hl : lastN s.og with
  | none => rw [hl] at h; cases h
  | some id =>
    rw [hl] at h
    simp only [Option.bind_some] at h ⊢
    cases hy : heapD g [.ptr id 0] s.nx lv s.nx { s with og := s.og.dropLast } with
    | none => rw [hy] at h; cases h
    | some y =>
      rw [hy] at h
      simp only [Option.map_some, Option.some.injEq] at h
      subst h
      exact (heapD_app h3 hy).map
theorem runHD_app {fz : FuncId → Bool} {en : Nat → FuncId → Nat → Code → St → Option (Nat × St)} {e0 : FuncId → Nat → Code → St → Option (Nat × St)} (he : ∀ f nt c s r, e0 f nt c s = some r → Ult (fun n => en n f nt c s) r) {f : FuncId} {args : List V} {s : St} {r : V × St} (h : runHD P fz e0 f args s = some r) : Ult (fun n => runHD P fz (en n) f args s) r := by
  unfold runHD at h ⊢
  cases hb : bodyOf P f with
  | none => simp only [hb] at h; cases h
  | some fn =>
    simp only [hb, Option.bind_some] at h ⊢
    split at h
    case isFalse => cases h
    rename_i hnt
    simp only [hnt, if_true]
    cases hc : fn.body with
    | none => rw [hc] at h; cases h
    | some c =>
      rw [hc] at h
      simp only [Option.bind_some] at h ⊢
      cases hd : splitD c with
      | none => rw [hd] at h; cases h
      | some d =>
        rw [hd] at h
        simp only [Option.bind_some] at h ⊢
        cases hx : exL (e0 f fn.ntmps) d.1 (canon (List.range args.length) (hst args s)) with
        | none => rw [hx] at h; cases h
        | some x =>
          rw [hx] at h
          simp only [Option.bind_some] at h
          refine (exL_app (fun c s r hr => he f fn.ntmps c s r hr) _ hx).bind ?_
          cases hs : defD fn.ntmps d.2.1 d.2.2.1 x with
          | none => rw [hs] at h; cases h
          | some s1 =>
            rw [hs] at h
            simp only [Option.bind_some] at h ⊢
            cases hy : e0 f fn.ntmps d.2.2.2.2 s1 with
            | none => rw [hy] at h; cases h
            | some y =>
              rw [hy] at h
              simp only [Option.bind_some] at h
              refine (he _ _ _ _ _ hy).bind ?_
              split at h
              case isFalse => cases h
              rename_i hq
              simp only [hq, and_self, if_true]
              cases hz : endD (runH P fz e0 d.2.2.2.1) (slotsR fn) y.2 with
              | none => rw [hz] at h; cases h
              | some s2 =>
                rw [hz] at h
                exact (endD_app (fun args s r hr => runH_app he hr) hz).bind (Ult.const h)
theorem callH_app {io df fz : FuncId → Bool} {XH : FuncId → Option XRule} {en : Nat → FuncId → Nat → Code → St → Option (Nat × St)} {e0 : FuncId → Nat → Code → St → Option (Nat × St)} (he : ∀ f nt c s r, e0 f nt c s = some r → Ult (fun n => en n f nt c s) r) : KApp (callH P io df fz XH e0) (fun n => callH P io df fz XH (en n)) := by
  intro f
  cases hXf : XH f with
  | some g => exact .inr ⟨runX g, fun _ => runX g, by simp [callH, hXf], fun n => by simp [callH, hXf], fun args s r h => Ult.const h⟩
  | none =>
  cases hio : io f with
  | false => exact .inl ⟨by simp [callH, hio, hXf], fun n => by simp [callH, hio, hXf]⟩
  | true =>
    cases hdf : df f with
    | true => exact .inr ⟨runHD P fz e0 f, fun n => runHD P fz (en n) f, by simp [callH, hio, hXf, hdf], fun n => by simp [callH, hio, hXf, hdf], fun args s r h => runHD_app he h⟩
    | false => exact .inr ⟨runH P fz e0 f, fun n => runH P fz (en n) f, by simp [callH, hio, hXf, hdf], fun n => by simp [callH, hio, hXf, hdf], fun args s r h => runH_app he h⟩
end
section
variable (P : Program) (live : FuncId → Nat → List Nat) (X : XT)
theorem execD_succ : ∀ (n : Nat) (f : FuncId) (nt : Nat) (c : Code) (s : St) (r : Nat × St), execD P live X n f nt c s = some r → execD P live X (n + 1) f nt c s = some r
  | 0, _, _, _, _, _, h => by cases h
  | n + 1, f, nt, c, s, r, h => by
    have ih := execD_succ n
    obtain ⟨N, hN⟩ := stepC_app (P := P) (cn := fun _ => ⟨callD P (fzL live) X.c (execD P live X (n + 1)), ioB live, callH P (ioB live) (dfB live) (fzL live) X.h (execD P live X (n + 1))⟩) (c0 := ⟨callD P (fzL live) X.c (execD P live X n), ioB live, callH P (ioB live) (dfB live) (fzL live) X.h (execD P live X n)⟩) (an := fun _ => execD P live X (n + 1) f nt) (a0 := execD P live X n f nt)
      (fun g args r hr => callD_app (en := fun _ => execD P live X (n + 1)) (e0 := execD P live X n) (fun f nt c s r h => Ult.const (ih f nt c s r h)) hr) (callH_app (en := fun _ => execD P live X (n + 1)) (e0 := execD P live X n) (fun f nt c s r h => Ult.const (ih f nt c s r h))) (fun _ => rfl) (fun c s r h => Ult.const (ih f nt c s r h)) c s r h
    exact hN N (Nat.le_refl _)
theorem execD_le {n k : Nat} (hk : n ≤ k) {f : FuncId} {nt : Nat} {c : Code} {s : St} {r : Nat × St} (h : execD P live X n f nt c s = some r) : execD P live X k f nt c s = some r := by
  induction hk with
  | refl => exact h
  | step _ ih => exact execD_succ P live X _ f nt c s r ih
open Classical in
/-- the machine, with asx much fuel asx it takes -/
noncomputable def Exec (f : FuncId) (nt : Nat) (c : Code) (s : St) : Option (Nat × St) := if h : ∃ n r, execD P live X n f nt c s = some r then some h.choose_spec.choose else none
theorem Exec_of {n : Nat} {f : FuncId} {nt : Nat} {c : Code} {s : St} {r : Nat × St} (h : execD P live X n f nt c s = some r) : Exec P live X f nt c s = some r := by
  have hex : ∃ n r, execD P live X n f nt c s = some r := ⟨n, r, h⟩
  unfold Exec
  rw [dif_pos hex]
  have h1 := hex.choose_spec.choose_spec
  have a := execD_le P live X (Nat.le_max_left hex.choose n) h1
  have b := execD_le P live X (Nat.le_max_right hex.choose n) h
  rw [a] at b
  exact b
theorem Exec_some {f : FuncId} {nt : Nat} {c : Code} {s : St} {r : Nat × St} (h : Exec P live X f nt c s = some r) : Ult (fun n => execD P live X n f nt c s) r := by
  unfold Exec at h
  split at h
  · rename_i hex
    injection h with h
    have h1 := hex.choose_spec.choose_spec
    rw [h] at h1
    exact ⟨hex.choose, fun n hn => execD_le P live X hn h1⟩
  · cases h
noncomputable def Call (f : FuncId) (args : List V) : Option (V × List B) := callD P (fzL live) X.c (Exec P live X) f args
/-- both kinds of calls -/
noncomputable def CallT : CT := ⟨Call P live X, ioB live, callH P (ioB live) (dfB live) (fzL live) X.h (Exec P live X)⟩
/-- what one round of the machine gives -/
theorem Exec_step {f : FuncId} {nt : Nat} {c : Code} {s : St} {r : Nat × St} (h : stepC P (live f) (CallT P live X) nt (Exec P live X f nt) c s = some r) : Exec P live X f nt c s = some r := by
  obtain ⟨N, hN⟩ := stepC_app (P := P) (cn := fun n => ⟨callD P (fzL live) X.c (execD P live X n), ioB live, callH P (ioB live) (dfB live) (fzL live) X.h (execD P live X n)⟩) (c0 := CallT P live X) (an := fun n => execD P live X n f nt) (a0 := Exec P live X f nt)
    (fun g args r hr => callD_app (en := fun n => execD P live X n) (e0 := Exec P live X) (fun f nt c s r h => Exec_some P live X h) hr) (callH_app (en := fun n => execD P live X n) (e0 := Exec P live X) (fun f nt c s r h => Exec_some P live X h)) (fun _ => rfl) (fun c s r h => Exec_some P live X h) c s r h
  exact Exec_of P live X (n := N + 1) (hN N (Nat.le_refl _))
theorem Call_sound (hmo : P.follows .mixedOrders = true) (hX : XOk P X) {f : FuncId} {args : List V} {res : V × List B} (h : Call P live X f args = some res) : CallOk P f args res := by
  obtain ⟨N, hN⟩ := callD_app (P := P) (en := fun n => execD P live X n) (e0 := Exec P live X) (fun f nt c s r h => Exec_some P live X h) h
  exact call_sound hmo hX (hN N (Nat.le_refl _))
end
end Go.Proofs.YtomnbknaanlmaaaGreatDoor
namespace Go.Proofs.YtomnbknaanlmaaaGreatDoor
open Go.RowKit
section
variable (P : Program)
def st0 (args : List V) : St := { t := fun i => args.getD i .any, h := fun _ => none, sh := fun _ => false, nx := 0, lr := fun _ => [], lw := fun _ => [], og := [] }
/-- the end of a function -/
def endF (q : Bool) (fn : Func) (x : Nat × St) : Option (V × List B) := if x.1 ≤ 1 then (resV P fn x.2).bind fun vs => (finQ q x.2 vs).bind fun y => if okRes y.1 then some y else none else none
end
section
variable (P : Program)
def byO (t : TypeId) : Option Nat := (P.info? t).map (·.bytes)
def zOk (t : TypeId) : Bool := match P.info? t with | some i => decide (i.zero.map (fun z => z.cells.size) = some i.size) | none => false
variable {P}
end
section
variable {P : Program} {live : FuncId → Nat → List Nat} {X : XT}
theorem Call_of {f : FuncId} {args : List V} {fn : Func} {c : Code} {x : Nat × St} {r : V × List B} (hX : X.c f args = none) (hf : P.funcs[f]? = some fn) (hb : fn.body = some c) (hn : (fn.name == "runtime.NumGoroutine") = false) (ha : args.length ≤ fn.ntmps)
    (hs : stepC P (live f) (CallT P live X) fn.ntmps (Exec P live X f fn.ntmps) c (st0 args) = some x) (he : endF P (fzL live f) fn x = some r) : Call P live X f args = some r := by
  unfold Call callD
  rw [hX]
  have hbo : bodyOf P f = some fn := by simp [bodyOf, hf, hb]; simpa using hn
  simp only [hbo, Option.bind_some, ha, if_true, hb]
  have := Exec_step P live X hs
  unfold st0 at this
  rw [this]
  exact he
/-- with some fuel: for closed calls -/
theorem Call_fuel {n : Nat} {f : FuncId} {args : List V} {r : V × List B} (h : callD P (fzL live) X.c (execD P live X n) f args = some r) : Call P live X f args = some r := by
  obtain ⟨N, hN⟩ := callD_app (P := P) (X := X.c) (en := fun _ => Exec P live X) (e0 := execD P live X n) (fun f nt c s r h => Ult.const (Exec_of P live X h)) h
  exact hN N (Nat.le_refl _)
/-- the whole function at once -/
theorem Call_ev {f : FuncId} {args : List V} {fn : Func} {c : Code} {r : V × List B} (hf : P.funcs[f]? = some fn) (hb : fn.body = some c) (hn : (fn.name == "runtime.NumGoroutine") = false) (hX : X.c f args = none) (ha : decide (args.length ≤ fn.ntmps) = true)
    (hs : (stepC P (live f) (CallT P live X) fn.ntmps (Exec P live X f fn.ntmps) c (st0 args)).bind (endF P (fzL live f) fn) = some r) : Call P live X f args = some r := by
  cases hx : stepC P (live f) (CallT P live X) fn.ntmps (Exec P live X f fn.ntmps) c (st0 args) with
  | none => rw [hx] at hs; cases hs
  | some x => rw [hx] at hs; exact Call_of hX hf hb hn (by simpa using ha) hx hs
end
/-- a region that draws its order -/
theorem stepC_draw {P : Program} {live : Nat → List Nat} {call : CT} {nt : Nat} {again : Code → St → Option (Nat × St)} {id : Nat} {ops : Array Oper} {s : St} (h : drawOk P (ioR live id call.io) (fun j => live (3000000 + 1000 * id + j)) ops = true) :
    stepC P live call nt again (.region id ops true) s = (runD P ⟨call.call, ioR live id call.io, call.ch, lvD (ioR live id call.io) (fun j => live (3000000 + 1000 * id + j)) ops s.nx, s.nx + 8 * ops.size⟩ nt ops (anOf ops) s.nx (List.range ops.size) { s with lr := fun _ => [], lw := fun _ => [] }).map fun s' => (0, canon (live (2 * id + 1)) { s' with nx := s.nx + 8 * ops.size }) := by
  simp only [stepC, h, if_true]
theorem stepC_plain {P : Program} {live : Nat → List Nat} {call : CT} {nt : Nat} {again : Code → St → Option (Nat × St)} {id : Nat} {ops : Array Oper} {s : St} :
    stepC P live call nt again (.region id ops false) s = (runN P call.call call.ch (fun j => live (3000000 + 1000 * id + j)) nt ops ops.toList 0 s.nx s).map fun s' => (0, canon (live (2 * id + 1)) s') := rfl
theorem stepC_seq {P : Program} {live : Nat → List Nat} {call : CT} {nt : Nat} {again : Code → St → Option (Nat × St)} {a b : Code} {s : St} : stepC P live call nt again (.seq a b) s = (stepC P live call nt again a s).bind fun x => if x.1 = 0 then stepC P live call nt again b (cutS live b x.2) else some x := rfl
theorem stepC_cond {P : Program} {live : Nat → List Nat} {call : CT} {nt : Nat} {again : Code → St → Option (Nat × St)} {c : Operand} {a b : Code} {s : St} {q : Bool} (h : rho s.t c = .c (.bool q)) : stepC P live call nt again (.cond c a b) s = if q then stepC P live call nt again a s else stepC P live call nt again b s := by simp only [stepC, h]
theorem stepC_block {P : Program} {live : Nat → List Nat} {call : CT} {nt : Nat} {again : Code → St → Option (Nat × St)} {id : Nat} {c : Code} {s : St} : stepC P live call nt again (.block id c) s = (stepC P live call nt again c s).bind fun x => some (if x.1 = id + 2 then (0, x.2) else x) := by simp only [stepC]; cases stepC P live call nt again c s <;> rfl
end Go.Proofs.YtomnbknaanlmaaaGreatDoor
namespace Go.Proofs.YtomnbknaanlmaaaGreatDoor
open Go.RowKit
/-- a table of slots -/
def tb : List (Nat × V) → Nat → V
  | [], _ => .any
  | (j, v) :: l, i => if i = j then v else tb l i
/-- a state by tables -/
def mkS (t : List (Nat × V)) (h : List (Option B)) (sh : List Bool) (og : List Nat) : St := { t := tb t, h := fun j => (h[j]?).getD none, sh := fun j => (sh[j]?).getD false, nx := h.length, lr := fun _ => [], lw := fun _ => [], og := og }
def canT (live : List Nat) (s : St) (r : Nat → Option Nat) : List (Nat × V) := live.map fun i => (i, aggO r (nilA (s.nx + 200 * i) (s.t i)))
def canL (live : List Nat) (s : St) : List Nat := reach (nilH s.nx s.h) ((live.map fun i => nilA (s.nx + 200 * i) (s.t i)) ++ s.og.map fun id => .ptr id 0)
def canO (s : St) (r : Nat → Option Nat) : List Nat := s.og.map fun id => (r id).getD 0
theorem tb_map (g : Nat → V) : ∀ (l : List Nat) (i : Nat), tb (l.map fun i => (i, g i)) i = if i ∈ l then g i else .any
  | [], i => by simp [tb]
  | j :: l, i => by
    simp only [List.map_cons, tb, tb_map g l i, List.mem_cons]
    by_cases h : i = j
    · subst h; simp
    · simp [h]
theorem canon_mk (live : List Nat) (s : St) : canon live s = mkS (canT live s (fun id => pos id (canL live s))) ((canL live s).map fun id => (nilH s.nx s.h id).map (B.renO (fun id => pos id (canL live s)))) ((canL live s).map (nilSh s.nx s.sh)) (canO s (fun id => pos id (canL live s))) := by
  unfold canon mkS
  simp only
  congr 1
  · funext i
    rw [canT, tb_map]
    rfl
  · funext j
    rw [List.getElem?_map]
    show (((canL live s)[j]?).bind (nilH s.nx s.h)).map _ = _
    cases (canL live s)[j]? <;> rfl
  · funext j
    rw [List.getElem?_map]
    rfl
  · simp [canL]
end Go.Proofs.YtomnbknaanlmaaaGreatDoor
namespace Go.Proofs.YtomnbknaanlmaaaGreatDoor
open Go.RowKit
/-- kinds of a cell -/
inductive K1 where
  | int (k : IntKind)
  | bool
  | str
  | sl
def intOf : C → Int
  | .int _ n => n
  | _ => 0
def boolOf : C → Bool
  | .bool b => b
  | _ => false
def strOf : C → ByteArray
  | .str s => s
  | _ => default
def slOf : C → List (List C)
  | .sl es => es
  | _ => []
def decC : K1 → C → C
  | .int k, c => .int k (intOf c)
  | .bool, c => .bool (boolOf c)
  | .str, c => .str (strOf c)
  | .sl, c => .sl (slOf c)
def isK : K1 → C → Bool
  | .int k, .int k' _ => decide (k = k')
  | .bool, .bool _ => true
  | .str, .str _ => true
  | .sl, .sl _ => true
  | _, _ => false
theorem decC_eq {k : K1} {c : C} (h : isK k c = true) : decC k c = c := by
  cases k <;> cases c <;> simp_all [isK, decC, intOf, boolOf, strOf, slOf]
/-- an element, cell by cell -/
def decE : List K1 → Nat → List C → List C
  | [], _, _ => []
  | k :: ks, i, el => decC k (el.getD i .ne) :: decE ks (i + 1) el
def isE : List K1 → Nat → List C → Bool
  | [], i, el => el.length == i
  | k :: ks, i, el => isK k (el.getD i .ne) && isE ks (i + 1) el
theorem decE_drop : ∀ (ks : List K1) (i : Nat) (el : List C), isE ks i el = true → decE ks i el = el.drop i
  | [], i, el, h => by
    simp only [isE, beq_iff_eq] at h
    simp [decE, ← h]
  | k :: ks, i, el, h => by
    simp only [isE, Bool.and_eq_true] at h
    rw [decE, decC_eq h.1, decE_drop ks (i + 1) el h.2]
    have hi : i < el.length := by
      by_cases hi : i < el.length
      · exact hi
      · have := h.1
        rw [List.getD_eq_getElem?_getD, List.getElem?_eq_none (by omega)] at this
        cases k <;> simp [isK] at this
    rw [List.drop_eq_getElem_cons hi]
    simp [List.getD_eq_getElem?_getD, List.getElem?_eq_getElem hi]
theorem decE_eq {ks : List K1} {el : List C} (h : isE ks 0 el = true) : decE ks 0 el = el := by rw [decE_drop ks 0 el h]; rfl
section
variable (P : Program)
def shapeT : Nat → TypeId → Option (List K1)
  | 0, _ => none
  | d + 1, t => match P.underlying t with
    | some .bool => some [.bool]
    | some (.int k) => some [.int k]
    | some .string => some [.str]
    | some (.slice _) => some [.sl]
    | some (.struct fs) => fs.toList.foldr (fun f r => (shapeT d f.type).bind fun a => r.map (a ++ ·)) (some [])
    | _ => none
end
section
variable {β : Type}
/-- a test, then on -/
def brE (q : Bool) (a b : Option β) : Option β := match q with | true => a | false => b
def gdE (q : Bool) (a : Option β) : Option β := match q with | true => a | false => none
theorem gdE_some {q : Bool} {a : Option β} {r : β} (h : gdE q a = some r) : q = true ∧ a = some r := by cases q <;> simp_all [gdE]
def forceK (x : K1) (k : K1 → Option β) : Option β := match x with
  | .int a => k (.int a)
  | .bool => k .bool
  | .str => k .str
  | .sl => k .sl
theorem forceK_eq (x : K1) (k : K1 → Option β) : forceK x k = k x := by cases x <;> rfl
def forceKs (l : List K1) (k : List K1 → Option β) : Option β := match l with
  | [] => k []
  | x :: l => forceK x fun x => forceKs l fun l => k (x :: l)
theorem forceKs_eq : ∀ (l : List K1) (k : List K1 → Option β), forceKs l k = k l
  | [], _ => rfl
  | x :: l, k => by rw [forceKs, forceK_eq, forceKs_eq]
/-- values with their constructors in front -/
def forceC (x : C) (k : C → Option β) : Option β := match x with
  | .int a n => k (.int a n)
  | .bool b => k (.bool b)
  | .str s => k (.str s)
  | .sl es => k (.sl es)
  | .nilS => k .nilS
  | .ne => k .ne
  | .zs => k .zs
  | .nilP => k .nilP
  | .nilF => k .nilF
theorem forceC_eq (x : C) (k : C → Option β) : forceC x k = k x := by cases x <;> rfl
def forceCs (l : List C) (k : List C → Option β) : Option β := match l with
  | [] => k []
  | x :: l => forceC x fun x => forceCs l fun l => k (x :: l)
theorem forceCs_eq : ∀ (l : List C) (k : List C → Option β), forceCs l k = k l
  | [], _ => rfl
  | x :: l, k => by rw [forceCs, forceC_eq, forceCs_eq]
/-- a cell of a struct, or a value that is no struct -/
def forceV1 (v : V) (k : V → Option β) : Option β := match v with
  | .any => k .any
  | .c x => forceC x fun x => k (.c x)
  | .agg cs => k (.agg cs)
  | .tup vs => k (.tup vs)
  | .row id n => k (.row id n)
  | .ptr id off => k (.ptr id off)
  | .rptr id a i off => k (.rptr id a i off)
  | .eptr cs off => forceCs cs fun cs => k (.eptr cs off)
  | .fn f caps => k (.fn f caps)
  | .mp id => k (.mp id)
  | .rowE id => k (.rowE id)
theorem forceV1_eq (v : V) (k : V → Option β) : forceV1 v k = k v := by cases v <;> simp only [forceV1, forceC_eq, forceCs_eq]
def forceL1 (l : List V) (k : List V → Option β) : Option β := match l with
  | [] => k []
  | x :: l => forceV1 x fun x => forceL1 l fun l => k (x :: l)
theorem forceL1_eq : ∀ (l : List V) (k : List V → Option β), forceL1 l k = k l
  | [], _ => rfl
  | x :: l, k => by rw [forceL1, forceV1_eq, forceL1_eq]
def forceV2 (v : V) (k : V → Option β) : Option β := match v with
  | .agg cs => forceL1 cs fun cs => k (.agg cs)
  | .fn f caps => forceL1 caps fun caps => k (.fn f caps)
  | v => forceV1 v k
theorem forceV2_eq (v : V) (k : V → Option β) : forceV2 v k = k v := by cases v <;> simp only [forceV2, forceV1_eq, forceL1_eq]
def forceL2 (l : List V) (k : List V → Option β) : Option β := match l with
  | [] => k []
  | x :: l => forceV2 x fun x => forceL2 l fun l => k (x :: l)
theorem forceL2_eq : ∀ (l : List V) (k : List V → Option β), forceL2 l k = k l
  | [], _ => rfl
  | x :: l, k => by rw [forceL2, forceV2_eq, forceL2_eq]
def forceV (v : V) (k : V → Option β) : Option β := match v with
  | .tup vs => forceL2 vs fun vs => k (.tup vs)
  | v => forceV2 v k
theorem forceV_eq (v : V) (k : V → Option β) : forceV v k = k v := by cases v <;> simp only [forceV, forceV2_eq, forceL2_eq]
end
end Go.Proofs.YtomnbknaanlmaaaGreatDoor
namespace Go.Proofs.YtomnbknaanlmaaaGreatDoor
open Go.RowKit
section
variable (P : Program) {β : Type}
/-- equality asx one Bool -/
def eqE : Nat → TypeId → V → V → Option Bool
  | 0, _, _, _ => none
  | d + 1, t, x, y =>
    match P.underlying t, x, y with
    | some (.struct fs), .agg xs, .agg ys =>
      if P.stoodInHeld t || P.eqGuardType P.depth t || fs.toList.any (fun f => f.name == "_") then none
      else fs.toList.foldr (fun f r => (partV P f.type xs f.offset).bind fun a => (partV P f.type ys f.offset).bind fun b => (eqE d f.type a b).bind fun q => r.map fun r => q && r) (some true)
    | _, _, _ => eqV P (d + 1) t x y
theorem eqE_ok : ∀ (d : Nat) (t : TypeId) (x y : V) (q : Bool), eqE P d t x y = some q → eqV P d t x y = some q
  | 0, _, _, _, _, h => by simp [eqE] at h
  | d + 1, t, x, y, q, h => by
    unfold eqE at h
    split at h
    · rename_i fs xs ys ht
      unfold eqV
      rw [ht]
      simp only
      split at h
      · cases h
      · rename_i hn
        rw [if_neg hn]
        clear hn ht
        generalize fs.toList = l at h
        induction l generalizing q with
        | nil => exact h
        | cons f l ih =>
          simp only [List.foldr_cons] at h ⊢
          cases h1 : partV P f.type xs f.offset with
          | none => rw [h1] at h; cases h
          | some a =>
            rw [h1] at h
            cases h2 : partV P f.type ys f.offset with
            | none => rw [h2] at h; cases h
            | some b =>
              rw [h2] at h
              simp only [Option.bind_some] at h ⊢
              cases h3 : eqE P d f.type a b with
              | none => rw [h3] at h; cases h
              | some c =>
                rw [h3] at h
                rw [eqE_ok d f.type a b c h3]
                simp only [Option.bind_some] at h ⊢
                obtain ⟨r, hr, hq⟩ := Option.map_eq_some_iff.1 h
                rw [ih r hr]
                cases c <;> simp_all
    · exact h
def binE (op : BinOp) (t : TypeId) (x y : V) (k : V → Option β) : Option β :=
  match x, y with
  | .c (.int a n), .c (.int b m) =>
    match op with
    | .quo => if a = b then brE (m == 0) none (k (.c (.int a (a.wrap (n.tdiv m))))) else none
    | .rem => if a = b then brE (m == 0) none (k (.c (.int a (n.tmod m)))) else none
    | .shl => brE (decide (m < 0)) none (k (.c (.int a (a.wrap (n * 2 ^ (min m.toNat a.bits))))))
    | .shr => brE (decide (m < 0)) none (k (.c (.int a (n.fdiv (2 ^ (min m.toNat a.bits))))))
    | _ => (binV P op t x y).bind k
  | .c (.str a), .c (.str b) =>
    match op with
    | .add => brE (decide (((a.size + b.size : Nat) : Int) > IntKind.i64.max)) none (k (.c (.str (a ++ b))))
    | _ => (binV P op t x y).bind k
  | .agg xs, .agg ys =>
    match op with
    | .eql => (eqE P 9 t (.agg xs) (.agg ys)).bind fun q => k (.c (.bool q))
    | .neq => (eqE P 9 t (.agg xs) (.agg ys)).bind fun q => k (.c (.bool !q))
    | _ => none
  | .c (.sl es), .c .nilS =>
    match P.underlying t with
    | some (.slice _) =>
      match op with
      | .eql => gdE (!es.isEmpty) (k (.c (.bool false)))
      | .neq => gdE (!es.isEmpty) (k (.c (.bool true)))
      | _ => none
    | _ => none
  | x, y => (binV P op t x y).bind k
theorem brE_none {q : Bool} {a : Option β} {r : β} (h : brE q none a = some r) : q = false ∧ a = some r := by cases q <;> simp_all [brE]
theorem binE_ok {op : BinOp} {t : TypeId} {x y : V} {k : V → Option β} {r : β} (h : binE P op t x y k = some r) : (binV P op t x y).bind k = some r := by
  unfold binE at h
  split at h
  · split at h
    · split at h
      · rename_i e
        obtain ⟨h0, h⟩ := brE_none h
        simp only [beq_eq_false_iff_ne] at h0
        subst e
        simp [binV, intOp, h0, h]
      · cases h
    · split at h
      · rename_i e
        obtain ⟨h0, h⟩ := brE_none h
        simp only [beq_eq_false_iff_ne] at h0
        subst e
        simp [binV, intOp, h0, h]
      · cases h
    · obtain ⟨h0, h⟩ := brE_none h
      simp only [decide_eq_false_iff_not] at h0
      simp [binV, shOp, h0, h]
    · obtain ⟨h0, h⟩ := brE_none h
      simp only [decide_eq_false_iff_not] at h0
      simp [binV, shOp, h0, h]
    · exact h
  · split at h
    · obtain ⟨h0, h⟩ := brE_none h
      simp only [decide_eq_false_iff_not] at h0
      simp only [binV, strOp, if_neg h0]
      exact h
    · exact h
  · split at h
    · cases e : eqE P 9 t (.agg _) (.agg _) with
      | none => rw [e] at h; cases h
      | some q => rw [e] at h; simp only [binV, eqE_ok P _ _ _ _ _ e]; exact h
    · cases e : eqE P 9 t (.agg _) (.agg _) with
      | none => rw [e] at h; cases h
      | some q => rw [e] at h; simp only [binV, eqE_ok P _ _ _ _ _ e]; exact h
    · cases h
  · rename_i es
    split at h
    · rename_i ht
      split at h
      · obtain ⟨h0, h⟩ := gdE_some h
        cases es with
        | nil => simp at h0
        | cons e es => simp only [binV, eqV, ht, Option.map_some, Option.bind_some]; exact h
      · obtain ⟨h0, h⟩ := gdE_some h
        cases es with
        | nil => simp at h0
        | cons e es => simp only [binV, eqV, ht, Option.map_some, Option.bind_some]; exact h
      · cases h
    · cases h
  · exact h
/-- a bound of a slice expression -/
def bndE (x : Option V) (d : Nat) (m : Nat) (k : Nat → Option β) : Option β :=
  match x with
  | none => k d
  | some (.c (.int _ i)) => gdE (decide (0 ≤ i) && decide (i ≤ m)) (k i.toNat)
  | _ => none
theorem bndE_ok {x : Option V} {d m : Nat} {k : Nat → Option β} {r : β} (h : bndE x d m k = some r) : ∃ n, bnd x d m = some n ∧ k n = some r := by
  unfold bndE at h
  split at h
  · exact ⟨d, rfl, h⟩
  · obtain ⟨h0, h⟩ := gdE_some h
    simp only [Bool.and_eq_true, decide_eq_true_eq] at h0
    exact ⟨_, if_pos h0, h⟩
  · cases h
/-- the bytes of a text -/
def strIxE (s : ByteArray) (i : Int) (k : V → Option β) : Option β := gdE (decide (0 ≤ i) && decide (i.toNat < s.size)) (k (.c (.int .u8 (s.data.getD i.toNat 0).toNat)))
theorem strIxE_ok {s : ByteArray} {i : Int} {k : V → Option β} {r : β} (h : strIxE s i k = some r) : (strIx s i).bind k = some r := by
  unfold strIxE at h
  obtain ⟨h0, h⟩ := gdE_some h
  simp only [Bool.and_eq_true, decide_eq_true_eq] at h0
  unfold strIx
  rw [if_pos h0.1]
  have e : s[i.toNat]? = some (s.data.getD i.toNat 0) := by
    rw [getElem?_pos s i.toNat h0.2]
    congr 1
    have h1 : i.toNat < s.data.size := h0.2
    simp only [Array.getD, h1, dite_true]
    rfl
  rw [e]
  exact h
/-- an element of a list that is perhaps unknown -/
def atE (e : TypeId) (es : List (List C)) (n : Nat) (k : List C → Option β) : Option β :=
  match shapeT P 5 e with
  | some ks => forceKs ks fun ks => gdE (decide (n < es.length) && isE ks 0 (es.getD n [])) (k (decE ks 0 (es.getD n [])))
  | none => none
theorem atE_ok {e : TypeId} {es : List (List C)} {n : Nat} {k : List C → Option β} {r : β} (h : atE P e es n k = some r) : ∃ el, es[n]? = some el ∧ k el = some r := by
  unfold atE at h
  split at h
  · rw [forceKs_eq] at h
    obtain ⟨h0, h⟩ := gdE_some h
    simp only [Bool.and_eq_true, decide_eq_true_eq] at h0
    rw [decE_eq h0.2] at h
    refine ⟨_, ?_, h⟩
    rw [List.getElem?_eq_getElem h0.1]
    simp [List.getD_eq_getElem?_getD, List.getElem?_eq_getElem h0.1]
  · cases h
/-- the texts of an array -/
def isStrs : List V → Bool
  | [] => true
  | .c (.str _) :: l => isStrs l
  | _ => false
def strsE {γ : Type} : List V → (List ByteArray → Option γ) → Option γ
  | [], k => k []
  | .c (.str s) :: l, k => strsE l fun l' => k (s :: l')
  | _, _ => none
theorem strsE_ok {γ : Type} : ∀ {cs : List V} {k : List ByteArray → Option γ} {r : γ}, strsE cs k = some r → ∃ l, cs = l.map (fun s => V.c (.str s)) ∧ k l = some r
  | [], k, r, h => ⟨[], rfl, h⟩
  | v :: cs, k, r, h => by
    cases v with
    | c x =>
      cases x with
      | str s =>
        simp only [strsE] at h
        obtain ⟨l', h1, h2⟩ := strsE_ok h
        exact ⟨s :: l', by rw [h1]; rfl, h2⟩
      | _ => simp [strsE] at h
    | _ => simp [strsE] at h
/-- the numbers of an array -/
def isInts : List V → Bool
  | [] => true
  | .c (.int .i64 _) :: l => isInts l
  | _ => false
def intsE {γ : Type} : List V → (List Int → Option γ) → Option γ
  | [], k => k []
  | .c (.int .i64 n) :: l, k => intsE l fun l' => k (n :: l')
  | _, _ => none
theorem intsE_ok {γ : Type} : ∀ {cs : List V} {k : List Int → Option γ} {r : γ}, intsE cs k = some r → ∃ l, cs = l.map (fun n => V.c (.int .i64 n)) ∧ k l = some r
  | [], k, r, h => ⟨[], rfl, h⟩
  | v :: cs, k, r, h => by
    cases v with
    | c x =>
      cases x with
      | int q n =>
        cases q with
        | i64 =>
          simp only [intsE] at h
          obtain ⟨l', h1, h2⟩ := intsE_ok h
          exact ⟨n :: l', by rw [h1]; rfl, h2⟩
        | _ => simp [intsE] at h
      | _ => simp [intsE] at h
    | _ => simp [intsE] at h
def arrE (len : Nat) (e : TypeId) (cs : List V) (i : Int) (k : V → Option β) (d : Option β) : Option β := match isStrs cs, szO P e, aggB P e with
  | true, some 1, some false => strsE cs fun l => gdE (decide (0 ≤ i) && decide (i < len) && decide (i.toNat < l.length)) (k (.c (.str (l.getD i.toNat ByteArray.empty))))
  | false, some 1, some false => bif isInts cs then (intsE cs fun l => gdE (decide (0 ≤ i) && decide (i < len) && decide (i.toNat < l.length)) (k (.c (.int .i64 (l.getD i.toNat 0))))) else d
  | _, _, _ => d
theorem arrE_ok {len : Nat} {e : TypeId} {cs : List V} {i : Int} {k : V → Option β} {d : Option β} {r : β} (h : arrE P len e cs i k d = some r) : d = some r ∨ ((szO P e).bind fun z => if 0 ≤ i ∧ i < len then partV P e cs (i.toNat * z) else none).bind k = some r := by
  unfold arrE at h
  split at h
  · rename_i e1 e2 e3
    right
    obtain ⟨l, h1, h2⟩ := strsE_ok h
    obtain ⟨h3, h4⟩ := gdE_some h2
    simp only [Bool.and_eq_true, decide_eq_true_eq] at h3
    obtain ⟨⟨a1, a2⟩, a3⟩ := h3
    rw [e2]
    simp only [Option.bind_some]
    rw [if_pos ⟨a1, a2⟩]
    unfold partV
    rw [e3, e2]
    simp only [Option.bind_some, Bool.false_eq_true, if_false]
    subst h1
    have e4 : (l.map fun s => V.c (.str s))[i.toNat * 1]? = some (V.c (.str (l.getD i.toNat ByteArray.empty))) := by
      rw [Nat.mul_one, List.getElem?_map, List.getElem?_eq_getElem a3, List.getD_eq_getElem?_getD, List.getElem?_eq_getElem a3]
      rfl
    rw [e4]
    exact h4
  · rename_i e1 e2 e3
    cases hi : isInts cs with
    | false => rw [hi] at h; exact .inl h
    | true =>
    rw [hi, cond_true] at h
    right
    obtain ⟨l, h1, h2⟩ := intsE_ok h
    obtain ⟨h3, h4⟩ := gdE_some h2
    simp only [Bool.and_eq_true, decide_eq_true_eq] at h3
    obtain ⟨⟨a1, a2⟩, a3⟩ := h3
    rw [e2]
    simp only [Option.bind_some]
    rw [if_pos ⟨a1, a2⟩]
    unfold partV
    rw [e3, e2]
    simp only [Option.bind_some, Bool.false_eq_true, if_false]
    subst h1
    have e4 : (l.map fun n => V.c (.int .i64 n))[i.toNat * 1]? = some (V.c (.int .i64 (l.getD i.toNat 0))) := by
      rw [Nat.mul_one, List.getElem?_map, List.getElem?_eq_getElem a3, List.getD_eq_getElem?_getD, List.getElem?_eq_getElem a3]
      rfl
    rw [e4]
    exact h4
  · exact .inl h
def ev0E (r : Operand → V) (o : Op) (k : V → Option β) : Option β :=
  match o with
  | .pick c a b => match r c with | .c (.bool q) => brE q (k (r a)) (k (r b)) | _ => none
  | .binOp op t x y _ => binE P op t (r x) (r y) k
  | .indexAddr t x ix =>
    match P.underlying t, r x, r ix with
    | some (.slice e), .row id n, .c (.int _ i) => (szO P e).bind fun z => gdE (decide (0 ≤ i) && decide (i < n)) (k (.rptr id z i.toNat 0))
    | some (.slice e), .c (.sl es), .c (.int _ i) => (szO P e).bind fun z => gdE (decide (0 ≤ i)) (atE P e es i.toNat fun el => if el.length = z then k (.eptr el 0) else none)
    | some (.array len e), .ptr id off, .c (.int _ i) => (szO P e).bind fun z => gdE (decide (0 ≤ i) && decide (i < len)) (k (.ptr id (off + i.toNat * z)))
    | _, _, _ => none
  | .index t x ix =>
    match P.underlying t, r x, r ix with
    | some .string, .c (.str s), .c (.int _ i) => strIxE s i k
    | some (.array len e), .agg cs, .c (.int _ i) => arrE P len e cs i k ((ev0 P r (.index t x ix)).bind k)
    | _, _, _ => (ev0 P r (.index t x ix)).bind k
  | .slice t x lo hi none =>
    match P.underlying t, r x with
    | some .string, .c (.str s) => bndE (hi.map r) s.size s.size fun h => bndE (lo.map r) 0 h fun l => k (.c (.str (s.extract l h)))
    | _, _ => none
  | o => (ev0 P r o).bind k
theorem ev0E_ok {r : Operand → V} {o : Op} {k : V → Option β} {x : β} (h : ev0E P r o k = some x) : (ev0 P r o).bind k = some x := by
  unfold ev0E at h
  split at h
  · split at h
    · rename_i q e
      simp only [ev0, e]
      cases q <;> exact h
    · cases h
  · exact binE_ok P h
  · unfold ev0
    split at h
    · rename_i e1 e2 e3
      simp only [e1, e2, e3]
      cases hz : szO P _ with
      | none => rw [hz] at h; cases h
      | some z =>
        rw [hz] at h
        simp only [Option.bind_some] at h ⊢
        obtain ⟨h0, h⟩ := gdE_some h
        simp only [Bool.and_eq_true, decide_eq_true_eq] at h0
        rw [if_pos h0]
        exact h
    · rename_i e1 e2 e3
      simp only [e1, e2, e3]
      cases hz : szO P _ with
      | none => rw [hz] at h; cases h
      | some z =>
        rw [hz] at h
        simp only [Option.bind_some] at h ⊢
        obtain ⟨h0, h⟩ := gdE_some h
        simp only [decide_eq_true_eq] at h0
        rw [if_pos h0]
        obtain ⟨el, h1, h⟩ := atE_ok P h
        rw [h1]
        simp only [Option.bind_some]
        split at h
        · rename_i h2
          rw [if_pos h2]
          exact h
        · cases h
    · rename_i e1 e2 e3
      simp only [e1, e2, e3]
      cases hz : szO P _ with
      | none => rw [hz] at h; cases h
      | some z =>
        rw [hz] at h
        simp only [Option.bind_some] at h ⊢
        obtain ⟨h0, h⟩ := gdE_some h
        simp only [Bool.and_eq_true, decide_eq_true_eq] at h0
        rw [if_pos h0]
        exact h
    · cases h
  · split at h
    · rename_i e1 e2 e3
      unfold ev0
      simp only [e1, e2, e3]
      exact strIxE_ok h
    · rename_i e1 e2 e3
      rcases arrE_ok P h with h | h
      · exact h
      · unfold ev0
        simp only [e1, e2, e3]
        exact h
    · exact h
  · split at h
    · rename_i e1 e2
      unfold ev0
      simp only [e1, e2]
      obtain ⟨u, h1, h⟩ := bndE_ok h
      obtain ⟨l, h2, h⟩ := bndE_ok h
      rw [h1]
      simp only [Option.bind_some, h2, Option.map_some]
      exact h
    · cases h
  · exact h
end
end Go.Proofs.YtomnbknaanlmaaaGreatDoor
namespace Go.Proofs.YtomnbknaanlmaaaGreatDoor
open Go.RowKit
/-- some cells of an element -/
def isP : List K1 → Nat → List C → Bool
  | [], _, _ => true
  | k :: ks, i, el => isK k (el.getD i .ne) && isP ks (i + 1) el
theorem decE_part : ∀ (ks : List K1) (i : Nat) (el : List C), isP ks i el = true → i + ks.length ≤ el.length → decE ks i el = (el.drop i).take ks.length
  | [], i, el, _, _ => by simp [decE]
  | k :: ks, i, el, h, hl => by
    simp only [isP, Bool.and_eq_true] at h
    simp only [List.length_cons] at hl
    rw [decE, decC_eq h.1, decE_part ks (i + 1) el h.2 (by omega)]
    have hi : i < el.length := by omega
    rw [List.drop_eq_getElem_cons hi, List.length_cons, List.take_succ_cons]
    simp [List.getD_eq_getElem?_getD, List.getElem?_eq_getElem hi]
section
variable (P : Program) {β : Type}
/-- a part of an element of a list -/
def partE (t : TypeId) (el : List C) (off z : Nat) (k : V → Option β) : Option β :=
  match shapeT P 5 t, aggB P t with
  | some ks, some b => forceKs ks fun ks => if szO P t = some ks.length ∧ off + ks.length ≤ z then gdE (isP ks off el) (match b with | true => k (.agg ((decE ks off el).map .c)) | false => match decE ks off el with | [x] => k (.c x) | _ => none) else none
  | _, _ => none
theorem partE_ok {t : TypeId} {el : List C} {off : Nat} {k : V → Option β} {r : β} (h : partE P t el off el.length k = some r) : (partV P t (el.map .c) off).bind k = some r := by
  unfold partE at h
  split at h
  · rename_i ks b h1 h2
    rw [forceKs_eq] at h
    split at h
    · rename_i h3
      obtain ⟨h0, h⟩ := gdE_some h
      rw [decE_part ks off el h0 h3.2] at h
      unfold partV
      rw [h2, h3.1]
      simp only [Option.bind_some]
      cases b with
      | true =>
        simp only [if_true, List.length_map, if_pos h3.2, Option.bind_some]
        rw [← List.map_drop, ← List.map_take]
        exact h
      | false =>
        simp only at h
        split at h
        · rename_i x hx
          have hn : ks.length = 1 ∨ ks.length ≠ 1 := by omega
          have hl : ((el.drop off).take ks.length).length = 1 := by rw [hx]; rfl
          simp only [List.length_take, List.length_drop] at hl
          have ho : off < el.length := by omega
          have e : el[off]? = some x := by
            rw [List.drop_eq_getElem_cons ho] at hx
            have hk : ks.length = (ks.length - 1) + 1 := by omega
            rw [hk, List.take_succ_cons] at hx
            injection hx with hx _
            rw [List.getElem?_eq_getElem ho, hx]
          simp only [Bool.false_eq_true, if_false, List.getElem?_map, e, Option.map_some, Option.bind_some]
          exact h
        · cases h
    · cases h
  · cases h
def loadE (h : Nat → Option B) (t : TypeId) (a : V) (k : V → Option β) : Option β :=
  match a with
  | .rptr id z i off => match h id with
    | some (.row es) => gdE (decide (i < es.length) && (es.getD i []).length == z) (partE P t (es.getD i []) off z k)
    | some (.tab es q v) => if z = 1 ∧ off = 0 then gdE (decide (i < es.length)) (brE (i == q) ((partV P t [v] 0).bind k) (gdE ((es.getD i []).length == 1) (partE P t (es.getD i []) 0 1 k))) else none
    | _ => none
  | a => (loadV P h t a).bind k
theorem getD_at {α : Type} {l : List α} {n : Nat} {d : α} (h : n < l.length) : l[n]? = some (l.getD n d) := by
  rw [List.getElem?_eq_getElem h]
  simp [List.getD_eq_getElem?_getD, List.getElem?_eq_getElem h]
theorem loadE_ok {h : Nat → Option B} {t : TypeId} {a : V} {k : V → Option β} {r : β} (hh : loadE P h t a k = some r) : (loadV P h t a).bind k = some r := by
  unfold loadE at hh
  split at hh
  · rename_i id z i off
    split at hh
    · rename_i e
      obtain ⟨h0, hh⟩ := gdE_some hh
      simp only [Bool.and_eq_true, decide_eq_true_eq, beq_iff_eq] at h0
      simp only [loadV, e, getD_at (d := []) h0.1, Option.bind_some, if_pos h0.2]
      rw [← h0.2] at hh
      exact partE_ok P hh
    · rename_i es q v e
      split at hh
      case isFalse => cases hh
      rename_i hz
      obtain ⟨rfl, rfl⟩ := hz
      obtain ⟨h0, hh⟩ := gdE_some hh
      simp only [decide_eq_true_eq] at h0
      simp only [loadV, e, getD_at (d := []) h0, Option.bind_some, and_self, if_true]
      by_cases hq' : i = q
      · have : (i == q) = true := by simpa using hq'
        simp only [this, brE] at hh
        simp only [hq', if_true]
        exact hh
      · have : (i == q) = false := by simpa using hq'
        simp only [this, brE] at hh
        obtain ⟨h1, hh⟩ := gdE_some hh
        simp only [beq_iff_eq] at h1
        simp only [hq', if_false, h1, if_true]
        rw [← h1] at hh
        exact partE_ok P hh
    · cases hh
  · exact hh
/-- rows that are written out -/
def forceEs (l : List (List C)) (k : List (List C) → Option β) : Option β := match l with
  | [] => k []
  | x :: l => forceCs x fun x => forceEs l fun l => k (x :: l)
theorem forceEs_eq : ∀ (l : List (List C)) (k : List (List C) → Option β), forceEs l k = k l
  | [], _ => rfl
  | x :: l, k => by rw [forceEs, forceCs_eq, forceEs_eq]
def forceRw (l : List B) (k : List B → Option β) : Option β := match l with
  | [.row es] => forceEs es fun es => k [.row es]
  | l => k l
theorem forceRw_eq (l : List B) (k : List B → Option β) : forceRw l k = k l := by
  unfold forceRw
  split
  · rw [forceEs_eq]
  · rfl
/-- a text's bytes asx elements -/
def bytesL (s : ByteArray) : List (List C) := s.data.toList.map fun b => [byteC b]
def convE (h : Nat → Option B) (r : Operand → V) (base : Nat) (src dst : TypeId) (x : Operand) (k : V × List B × List Nat → Option β) : Option β :=
  match P.underlying src, P.underlying dst with
  | some .string, some (.slice e) => match P.underlying e, r x with
    | some (.int .u8), .c (.str s) => if szO P e = some 1 then gdE (decide (s.size ≤ 9223372036854775807) && !(s.size == 0)) (k (.row base s.size, [.row (bytesL s)], [])) else none
    | _, _ => none
  | some (.slice e), some .string => match P.underlying e with
    | some (.int .u8) => (frzC h (r x)).bind fun y => match y.1 with
      | .sl es => (bytesOf es).bind fun l => k (.c (.str ⟨l.toArray⟩), [], [])
      | _ => none
    | _ => none
  | _, _ => none
theorem convE_ok {call : FuncId → List V → Option (V × List B)} {h : Nat → Option B} {r : Operand → V} {base : Nat} {src dst : TypeId} {x : Operand} {k : V × List B × List Nat → Option β} {q : β} (hh : convE P h r base src dst x k = some q) : (ev1 P call h r base (.convert src dst x)).bind k = some q := by
  unfold convE at hh
  unfold ev1
  split at hh
  · rename_i e h1 h2
    split at hh
    · rename_i s h3 h4
      split at hh
      case isFalse => cases hh
      rename_i h5
      obtain ⟨h6, hh⟩ := gdE_some hh
      simp only [Bool.and_eq_true, decide_eq_true_eq, Bool.not_eq_true', beq_eq_false_iff_ne, ne_eq] at h6
      simp only [h1, h2, h3, h4, h5, h6.1, h6.2, and_self, if_true, if_false, Option.bind_some]
      exact hh
    · cases hh
  · rename_i e h1 h2
    split at hh
    · rename_i h3
      simp only [h1, h2, h3]
      cases hf : frzC h (r x) with
      | none => rw [hf] at hh; cases hh
      | some y =>
        rw [hf] at hh
        simp only [Option.bind_some] at hh ⊢
        split at hh
        · rename_i es h4
          cases hb : bytesOf es with
          | none => rw [hb] at hh; cases hh
          | some l => rw [hb] at hh; simp only [Option.bind_some] at hh; simp only [h4, hb, Option.map_some, Option.bind_some]; exact hh
        · cases hh
    · cases hh
  · cases hh
def ev1E (callE : FuncId → List V → (V × List B → Option β) → Option β) (h : Nat → Option B) (r : Operand → V) (base : Nat) (o : Op) (k : V × List B × List Nat → Option β) : Option β :=
  match o with
  | .load t a => loadE P h t (r a) fun v => k (v, [], [])
  | .makeSlice t l c =>
    match P.underlying t, r l, r c with
    | some (.slice e), .c (.int _ n), .c (.int _ m) => (P.info? e).bind fun i => gdE (decide (n = m) && decide (0 ≤ n) && decide (n * i.bytes ≤ 140737488355328) && decide (n ≤ 9223372036854775807)) (if 0 < i.size then
        (zeroV P e).bind fun z => z.cells.bind fun zc => (frzL h zc).bind fun z' => if z'.1.length = i.size ∧ z'.2 = [] then forceCs z'.1 fun zl => k (.row base n.toNat, [mkB P e i.size n.toNat (List.replicate n.toNat zl)], []) else none
      else none)
    | _, _, _ => none
  | .slice t x lo hi mx =>
    match P.underlying t with
    | some (.slice e) => (frzC h (r x)).bind fun y => match y.1 with
      | .sl es => (szO P e).bind fun z => bndE (mx.map r) es.length es.length fun m => bndE (hi.map r) es.length m fun u => bndE (lo.map r) 0 u fun l =>
          match mx with
          | none => gdE (es.all (fun el => el.length == z)) (k (.c (.sl ((es.drop l).take (u - l))), [], y.2))
          | some _ => if hi.isNone then none else brE (l == m) (k (.c .zs, [], [])) (gdE (es.all (fun el => el.length == z)) (k (.c (.sl ((es.drop l).take (u - l))), [], y.2)))
      | _ => none
    | _ => none
  | .call { callee := .value f, args, .. } =>
    match r f with
    | .fn g caps => (bodyOf P (cFn g)).bind fun _ => (frzAs h (args.toList.map r)).bind fun x => (frzPs h caps).bind fun y =>
        callE (cFn g) (cAr g x.1 y.1) fun z => if z.2.length ≤ 8 then k (z.1.ren (fun i => base + i), z.2, bif lendB z then [] else x.2 ++ y.2) else none
    | _ => none
  | .convert src dst x => convE P h r base src dst x k
  | .buildSlice t len parts => (ev1 P (fun _ _ => none) h r base (.buildSlice t len parts)).bind fun x => forceRw x.2.1 fun bs => k (x.1, bs, x.2.2)
  | .call { callee := .builtin .append, args, argTypes } =>
    match argTypes.toList, args.toList with
    | [t, t'], [s, x] => match P.underlying t, P.underlying t', r s with
      | some (.slice e), some (.slice _), .c .zs => (P.info? e).bind fun i => if 0 < i.size ∧ i.zero.map (fun z => z.cells.size) = some i.size then
          (frzC h (r x)).bind fun y => match y.1 with
          | .sl xs => gdE (xs.all (fun el => el.length == i.size) && decide ((xs.length + xs.length / 4 + 192) * i.bytes ≤ 281474976710656) && decide (xs.length ≤ 9223372036854775807)) (k (.row base xs.length, [.row xs], y.2))
          | _ => none
        else none
      | _, _, _ => none
    | _, _ => none
  | o => (ev1 P (fun _ _ => none) h r base o).bind k
theorem ev1E_ok {call : FuncId → List V → Option (V × List B)} {callE : FuncId → List V → (V × List B → Option β) → Option β} (hc : ∀ f a k r, callE f a k = some r → (call f a).bind k = some r)
    {h : Nat → Option B} {r : Operand → V} {base : Nat} {o : Op} {k : V × List B × List Nat → Option β} {x : β} (hh : ev1E P callE h r base o k = some x) : (ev1 P call h r base o).bind k = some x := by
  unfold ev1E at hh
  split at hh
  · have := loadE_ok P hh
    simp only [ev1]
    cases e : loadV P h _ (r _) with
    | none => rw [e] at this; cases this
    | some v => rw [e] at this; exact this
  · unfold ev1
    split at hh
    · rename_i e1 e2 e3
      simp only [e1, e2, e3]
      cases hz : P.info? _ with
      | none => rw [hz] at hh; cases hh
      | some i =>
        rw [hz] at hh
        simp only [Option.bind_some] at hh ⊢
        obtain ⟨h0, hh⟩ := gdE_some hh
        simp only [Bool.and_eq_true, decide_eq_true_eq] at h0
        split at hh
        · rename_i h1
          rw [if_pos ⟨h0.1.1.1, h0.1.1.2, h0.1.2, h0.2, h1⟩]
          cases a1 : zeroV P _ with
          | none => rw [a1] at hh; cases hh
          | some z =>
            rw [a1] at hh
            simp only [Option.bind_some] at hh ⊢
            cases a2 : z.cells with
            | none => rw [a2] at hh; cases hh
            | some zc =>
              rw [a2] at hh
              simp only [Option.bind_some] at hh ⊢
              cases a3 : frzL h zc with
              | none => rw [a3] at hh; cases hh
              | some z' =>
                rw [a3] at hh
                simp only [Option.bind_some] at hh ⊢
                split at hh
                · rename_i h2
                  rw [if_pos h2]
                  rw [forceCs_eq] at hh
                  exact hh
                · cases hh
        · cases hh
    · cases hh
  · unfold ev1
    split at hh
    · rename_i e1
      simp only [e1]
      cases a1 : frzC h (r _) with
      | none => rw [a1] at hh; cases hh
      | some y =>
        rw [a1] at hh
        simp only [Option.bind_some] at hh ⊢
        split at hh
        · rename_i es e2
          simp only [e2]
          cases hz : szO P _ with
          | none => rw [hz] at hh; cases hh
          | some z =>
            rw [hz] at hh
            simp only [Option.bind_some] at hh ⊢
            obtain ⟨m, b1, hh⟩ := bndE_ok hh
            obtain ⟨u, b2, hh⟩ := bndE_ok hh
            obtain ⟨l, b3, hh⟩ := bndE_ok hh
            simp only [b1, b2, b3, Option.bind_some]
            split at hh
            · obtain ⟨h0, hh⟩ := gdE_some hh
              simp only [Option.isSome_none, Bool.false_eq_true, false_and, if_false, h0, if_true]
              exact hh
            · split at hh
              · cases hh
              · rename_i hn
                simp only [Option.isSome_some, true_and, hn]
                by_cases hl : l = m
                · simp only [hl, beq_self_eq_true, brE, if_true] at hh ⊢
                  exact hh
                · have : (l == m) = false := by simpa using hl
                  simp only [this, brE] at hh
                  obtain ⟨h0, hh⟩ := gdE_some hh
                  simp only [hl, if_false, h0, if_true]
                  exact hh
        · cases hh
    · cases hh
  · unfold ev1
    split at hh
    · rename_i e1
      simp only [e1]
      cases a1 : bodyOf P _ with
      | none => rw [a1] at hh; cases hh
      | some z =>
        rw [a1] at hh
        simp only [Option.bind_some] at hh ⊢
        cases a2 : frzAs h _ with
        | none => rw [a2] at hh; cases hh
        | some x1 =>
          rw [a2] at hh
          simp only [Option.bind_some] at hh ⊢
          cases a3 : frzPs h _ with
          | none => rw [a3] at hh; cases hh
          | some y1 =>
            rw [a3] at hh
            simp only [Option.bind_some] at hh ⊢
            have hh := hc _ _ _ _ hh
            cases a4 : call _ (cAr _ x1.1 y1.1) with
            | none => rw [a4] at hh; cases hh
            | some z1 =>
              rw [a4] at hh
              simp only [Option.bind_some] at hh ⊢
              split at hh
              · rename_i h2
                rw [if_pos h2]
                exact hh
              · cases hh
    · cases hh
  · exact convE_ok P hh
  · simp only [forceRw_eq] at hh
    exact hh
  · unfold ev1
    split at hh
    · rename_i e1 e2
      simp only [e1, e2]
      split at hh
      · rename_i e3 e4 e5
        simp only [e3, e4, e5]
        cases hz : P.info? _ with
        | none => rw [hz] at hh; cases hh
        | some i =>
          rw [hz] at hh
          simp only [Option.bind_some] at hh ⊢
          split at hh
          case isFalse => cases hh
          rename_i h1
          rw [if_pos h1]
          cases a1 : frzC h (r _) with
          | none => rw [a1] at hh; cases hh
          | some y =>
            rw [a1] at hh
            simp only [Option.bind_some] at hh ⊢
            split at hh
            · rename_i xs e6
              simp only [e6]
              obtain ⟨h0, hh⟩ := gdE_some hh
              simp only [Bool.and_eq_true, decide_eq_true_eq] at h0
              rw [if_pos ⟨h0.1.1, h0.1.2, h0.2⟩]
              exact hh
            · cases hh
      · cases hh
    · cases hh
  · rename_i hn1 hn2 hn3 hn4 hn5 hn6 hn7
    have e : ev1 P (fun _ _ => none) h r base o = ev1 P call h r base o := by
      unfold ev1
      split <;> first | rfl | skip
      rename_i f args _ _
      exact (hn4 _ _ _ rfl).elim
    rw [e] at hh
    exact hh
/-- a conversion of a text to bytes, also of the empty text -/
def convB (r : Operand → V) (base : Nat) (src dst : TypeId) (x : Operand) (k : V × List B × List Nat → Option β) : Option β :=
  match P.underlying src, P.underlying dst with
  | some .string, some (.slice e) => match P.underlying e, r x with
    | some (.int .u8), .c (.str s) => if szO P e = some 1 then gdE (decide (s.size ≤ 9223372036854775807)) (brE (s.size == 0) (k (.c (.sl []), [], [])) (k (.row base s.size, [.row (bytesL s)], []))) else none
    | _, _ => none
  | _, _ => none
theorem convB_ok {call : FuncId → List V → Option (V × List B)} {h : Nat → Option B} {r : Operand → V} {base : Nat} {src dst : TypeId} {x : Operand} {k : V × List B × List Nat → Option β} {q : β} (hh : convB P r base src dst x k = some q) : (ev1 P call h r base (.convert src dst x)).bind k = some q := by
  unfold convB at hh
  unfold ev1
  split at hh
  · rename_i e h1 h2
    split at hh
    · rename_i s h3 h4
      split at hh
      case isFalse => cases hh
      rename_i h5
      obtain ⟨h6, hh⟩ := gdE_some hh
      simp only [decide_eq_true_eq] at h6
      by_cases h7 : s.size = 0
      · have h8 : (s.size == 0) = true := by simpa using h7
        rw [h8] at hh
        simp only [brE] at hh
        simp only [h1, h2, h3, h4, h5, h7, and_self, Nat.zero_le, if_true, Option.bind_some]
        exact hh
      · have h8 : (s.size == 0) = false := by simpa using h7
        rw [h8] at hh
        simp only [brE] at hh
        simp only [h1, h2, h3, h4, h5, h6, h7, and_self, if_true, if_false, Option.bind_some]
        exact hh
    · cases hh
  · cases hh
/-- in a drawn region a text may be empty -/
def ev1Q (q : Bool) (callE : FuncId → List V → (V × List B → Option β) → Option β) (h : Nat → Option B) (r : Operand → V) (base : Nat) (o : Op) (k : V × List B × List Nat → Option β) : Option β :=
  match q, o with
  | true, .convert src dst x => match P.underlying src with
    | some .string => convB P r base src dst x k
    | _ => convE P h r base src dst x k
  | _, o => ev1E P callE h r base o k
theorem ev1Q_ok {q : Bool} {call : FuncId → List V → Option (V × List B)} {callE : FuncId → List V → (V × List B → Option β) → Option β} (hc : ∀ f a k r, callE f a k = some r → (call f a).bind k = some r)
    {h : Nat → Option B} {r : Operand → V} {base : Nat} {o : Op} {k : V × List B × List Nat → Option β} {x : β} (hh : ev1Q P q callE h r base o k = some x) : (ev1 P call h r base o).bind k = some x := by
  unfold ev1Q at hh
  split at hh
  · split at hh
    · exact convB_ok P hh
    · exact convE_ok P hh
  · exact ev1E_ok P hc hh
end
end Go.Proofs.YtomnbknaanlmaaaGreatDoor
