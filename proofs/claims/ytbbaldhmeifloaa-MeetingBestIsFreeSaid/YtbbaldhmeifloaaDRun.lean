/- Operations in the order of the text; calls on the caller's heap. -/
import Derived.Test.YtbbaldhmeifloaaDCanon
namespace Go.Proofs.Ytbbaldhmeifloaa
open Go.RowKit
section
variable {P : Program} {Z Y : ZMap} {m : Nat → Option Value} {w0 w : World}

/-- what a call on the caller's heap comes to -/
def HeapOk (P : Program) (f : FuncId) (args : List V) (s0 : St) (v : V) (s1 : St) : Prop :=
  ∀ (G : Nat → Option Value) (w0 w : World) (Z Y : ZMap) (m : Nat → Option Value) (cargs : Array Value), Rel w0 Z Y m s0.h s0.sh w → (∀ i, m i ≠ none → i < s0.nx) → (∀ (i id : Nat) (u : Value), s0.og[i]? = some id → G i = some u → m id = some u) →
    cargs.size = args.length → (∀ (i : Nat) u x, cargs[i]? = some u → args[i]? = some x → Rep Z Y m u x) →
    Calls P f cargs w fun e w' => ∃ cv Z' m', e = .returned cv ∧ ZUp w0 Z Z' ∧ Rel w0 Z' Y m' s1.h s1.sh w' ∧ Rep Z' Y m' cv v ∧ (∀ (i id : Nat) (u : Value), s1.og[i]? = some id → G i = some u → m' id = some u) ∧ ∀ i, m' i ≠ none → i < s1.nx

theorem ioOf_op {ch : FuncId → Option (List V → St → Option (V × St))} {r : Operand → V} {o : Op} {f : FuncId} {g : List V → St → Option (V × St)} {as : List V} (h : ioOf P ch r o = some (f, g, as)) : ∃ x args ats fn caps, o = .call { callee := .value x, args := args, argTypes := ats } ∧ r x = .fn f caps ∧ bodyOf P f = some fn ∧ ch f = some g ∧ as = args.toList.map r ++ caps := by
  unfold ioOf at h
  split at h
  · rename_i x args ats
    split at h
    · rename_i f' caps hx
      cases hb : bodyOf P f' with
      | none => rw [hb] at h; cases h
      | some fn =>
        rw [hb] at h
        simp only [Option.bind_some, Option.map_eq_some_iff] at h
        obtain ⟨g', hg, e⟩ := h
        injection e with e1 e2
        injection e2 with e2 e3
        subst e1 e2 e3
        exact ⟨x, args, ats, fn, caps, rfl, hx, hb, hg, rfl⟩
    · cases h
  · cases h
theorem runN_sim {G : Nat → Option Value} {call : FuncId → List V → Option (V × List B)} (hcall : ∀ g args res, call g args = some res → CallOk P g args res) {ch : FuncId → Option (List V → St → Option (V × St))} (hch : ∀ f g args s0 v s1, ch f = some g → g args s0 = some (v, s1) → HeapOk P f args s0 v s1)
    {nt : Nat} {ops : Array Oper} {Q : Exit → Act → World → Prop} : ∀ (l : List Oper) {base : Nat} {Z : ZMap} {m : Nat → Option Value} {s s' : St} {a : Act} {w : World}, FrS G w0 Z Y m nt s a w → (∀ i, m i ≠ none → i < base) → runN P call ch nt ops l base s = some s' →
    (∀ a' w' Z' m', ZUp w0 Z Z' → (∀ i, m' i ≠ none → i < s'.nx) → FrS G w0 Z' Y m' nt s' a' w' → Q .normal a' w') → wpList P ops Q l a w
  | [], base, Z, m, s, s', a, w, F, hm, hr, hQ => by
    simp only [runN] at hr
    injection hr with hr; subst hr
    exact hQ a w Z m ZUp.refl hm ⟨F.fr, F.rel, F.og⟩
  | o :: l, base, Z, m, s, s', a, w, F, hm, hr, hQ => by
    rw [runN] at hr
    split at hr
    · rename_i f g as hio
      obtain ⟨fx, args, ats, fn, caps, ho, hfx, hb, hg, has⟩ := ioOf_op hio
      split at hr
      case isFalse => cases hr
      rename_i hd
      cases hw : wantedV ops s.t o with
      | none => rw [hw] at hr; cases hr
      | some b =>
        rw [hw] at hr
        simp only [Option.bind_some] at hr
        refine wpList_step fun K hK => ?_
        rw [wanted_sim F.fr hw]
        cases b with
        | false =>
          simp only [Bool.false_eq_true, if_false] at hr ⊢
          exact hK _ _ (runN_sim hcall hch l (base := base + 8) (s := { s with t := putD s.t o.dst (.tup []) }) ⟨F.fr.put o.dst hd (.tup #[] [] rfl (by simp)), F.rel, F.og⟩ (fun i hi => by have := hm i hi; omega) hr hQ)
        | true =>
          simp only [if_true] at hr ⊢
          cases hx : g as { s with nx := base, og := idsAll nt s } with
          | none => rw [hx] at hr; cases hr
          | some x =>
            obtain ⟨v, s1⟩ := x
            rw [hx] at hr
            simp only [Option.bind_some] at hr
            split at hr
            case isFalse => cases hr
            rename_i hlen
            have rf := hfx ▸ F.fr.eval fx
            generalize hvf : a.eval fx = vf at rf
            cases rf with
            | fn _ cs _ hcl hcr =>
            subst has
            have hH := hch f g _ _ v s1 hg hx (fun j => ((idsAll nt s)[j]?).bind m) w0 w Z Y m (args.map a.eval ++ cs) F.rel hm (fun i id u h1 h2 => by
              simp only at h1
              rw [h1] at h2
              exact h2) (by simp [hcl]) (fun i u x hu hx => by
              rw [Array.getElem?_append] at hu
              rw [List.getElem?_append] at hx
              have hsz : (args.map a.eval).size = (args.toList.map (rho s.t)).length := by simp
              rw [hsz] at hu
              split at hu
              · rename_i hi
                rw [if_pos hi] at hx
                simp only [Array.getElem?_map, Option.map_eq_some_iff, List.getElem?_map, Array.getElem?_toList] at hu hx
                obtain ⟨y, hy, rfl⟩ := hu
                obtain ⟨y', hy', rfl⟩ := hx
                rw [hy] at hy'
                injection hy' with hy'; subst hy'
                exact F.fr.eval y
              · rename_i hi
                rw [if_neg hi] at hx
                exact hcr _ u x hu hx)
            obtain ⟨dst, op, ty, pos_, aft, gd⟩ := o
            simp only at ho
            subst ho
            have hrun : (execOp a.eval { dst := dst, op := .call { callee := .value fx, args := args, argTypes := ats }, type := ty, pos := pos_, after := aft, guard := gd }).run P w = .ok (.enter f (args.map a.eval ++ cs)) w := by
              simp only [execOp, resolve, hvf, Deferred.ofValue, Sem.run_bind, Sem.run_pure, Result.andThen_ok, invoke, Array.empty_append, bodyOf_call hb]
            unfold Oper.wp
            rw [hrun]
            refine hH.mono ?_
            rintro e w' ⟨cv, Z', m', rfl, hz', Rc, rep, hog, hmb'⟩
            have hren : ∀ id j u, ((pos id (idsAll nt s)).bind fun j => s1.og[j]?) = some j → m id = some u → m' j = some u := by
              intro id j u h1 h2
              cases hp : pos id (idsAll nt s) with
              | none => rw [hp] at h1; cases h1
              | some q =>
                rw [hp] at h1
                simp only [Option.bind_some] at h1
                refine hog q j u h1 ?_
                show ((idsAll nt s)[q]?).bind m = some u
                rw [pos_get hp]
                exact h2
            refine hK _ _ (runN_sim hcall hch l (s := backS nt s dst v s1) (Z := Z') (m := m') ⟨?_, Rc, ?_⟩ hmb' hr (fun a'' w'' Z'' m'' v1 v3 F'' => hQ a'' w'' Z'' m'' (hz'.trans v1) v3 F''))
            · have hfr : Fr Z' Y m' nt (fun i => topO (fun id => (pos id (idsAll nt s)).bind fun j => s1.og[j]?) (s.t i)) a := ⟨F.fr.size, F.fr.defers, fun i => topO_rep hren ((F.fr.rep i).mono hz'.le (MLe.refl m))⟩
              exact hfr.put dst hd rep
            · intro i id u h1 h2
              simp only [backS, List.getElem?_map, Option.map_eq_some_iff] at h1
              obtain ⟨id0, h1, e⟩ := h1
              have hmu := F.og i id0 u h1 h2
              have hmem : id0 ∈ idsAll nt s := dd_mem (List.mem_append_right _ (List.mem_of_getElem? h1))
              obtain ⟨q, hq⟩ := pos_mem hmem
              have hql : q < s1.og.length := by
                rw [hlen]
                exact (List.getElem?_eq_some_iff.1 (pos_get hq)).1
              rw [hq, Option.bind_some, List.getElem?_eq_getElem hql, Option.getD_some] at e
              subst e
              exact hren id0 _ u (by rw [hq, Option.bind_some, List.getElem?_eq_getElem hql]) hmu
    · cases h1 : opD P call nt ops s.h base o s with
      | none => rw [h1] at hr; cases hr
      | some s1 =>
        rw [h1] at hr
        simp only [Option.bind_some] at hr
        have hfr : ∀ i, base ≤ i → i < base + 8 → m i = none ∧ s.h i = none := fun i hi _ => by
          have hmi : m i = none := by
            cases hc : m i with
            | none => rfl
            | some v => have := hm i (by rw [hc]; simp); omega
          refine ⟨hmi, ?_⟩
          cases hc : s.h i with
          | none => rfl
          | some b => exact absurd hmi (F.rel.m_of_h (by rw [hc]; simp))
        refine wpList_step fun K hK => opD_sim hcall F (fun _ _ h => h) hfr h1 (fun a' w' Z' m' u1 u2 u3 F' => hK _ _ ?_)
        refine runN_sim hcall hch l F' (fun i hi => ?_) hr (fun a'' w'' Z'' m'' v1 v3 F'' => hQ a'' w'' Z'' m'' (u1.trans v1) v3 F'')
        rcases u3 i hi with h | h
        · have := hm i h; omega
        · omega
end
end Go.Proofs.Ytbbaldhmeifloaa
