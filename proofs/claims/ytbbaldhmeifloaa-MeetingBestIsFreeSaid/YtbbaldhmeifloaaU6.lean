/- freebusy.Union: what it returns, in every order. -/
import Derived.Test.YtbbaldhmeifloaaU1
import Derived.Shelf.SlSortCmp.NoneTotal
namespace Go.Proofs.Ytbbaldhmeifloaa
open Go.RowKit

/-- a slice of one's own that holds periods -/
def Hold (W w : World) (v : Value) (l : List Pd) : Prop :=
  (l = [] ∧ ∃ A c, v = .slice A 0 c ∧ c ≤ maxLen ∧ (A = none → c = 0)) ∨ ∃ g n c, v = .slice (some ⟨g, 0, none⟩) n c ∧ W.heap.size ≤ g ∧ RowP w g n c l
theorem Hold.bel {W w w' : World} {v : Value} {l : List Pd} (h : Hold W w v l) (hb : Bel w w') : Hold W w' v l := by
  rcases h with h | ⟨g, n, c, e, hg, ⟨t, fz, cur, hv, hr⟩, h0⟩
  · exact .inl h
  · exact .inr ⟨g, n, c, e, hg, ⟨t, fz, cur, by rw [hb.block g (heap_lt hv)]; exact hv, hr⟩, h0⟩
theorem del_empty {W w : World} (hG : GW W) (hb : Bel W w) {A : Option Addr} {c : Nat} (hc : c ≤ maxLen) (hA : A = none → c = 0) :
    Calls Try.prog 65 #[.slice A 0 c, .func (.func 67) #[] #[]] w fun e w' => e = .returned (.slice A 0 c) ∧ Bel W w' := by
  have hi : Calls Try.prog 86 #[.slice A 0 c, .func (.func 67) #[] #[]] w fun e w' => e = .returned (.int .i64 (-1)) ∧ Bel w w' := by
    have ok := Call_sound Try.prog lv X0 mo_ok X0_ok (fS_call (uidx_sp [] (by simp)))
    refine (ok.2.2 w Z0 Z0 _ (Bel.gw hb hG) (fun _ _ _ h => by cases h) (fun _ _ _ h => by cases h) rfl ?_).mono fun e w' => ?_
    · intro i u x hu hx
      match i with
      | 0 => simp at hu; subst hu; injection hx with hx; subst hx; exact .c (.sl A 0 c 2 0 0 (fun _ => .nilFunc) [] rfl (by simp) hc (by simp) (by simp) (by simp) (by simp) hA)
      | 1 => simp at hu; subst hu; injection hx with hx; subst hx; exact bad_arg
      | i + 2 => simp at hu
    · rintro ⟨cv, Z', m', rfl, _, R, r, _⟩
      cases r with
      | c r =>
      cases r
      exact ⟨rfl, R.bel⟩
  go_enter Try.func65, Try.ntmps65
  go_wp2_with (go_at_call 86; refine hi.mono ?_; rintro e w' ⟨rfl, hb'⟩)
  go_ret
  exact ⟨rfl, hb.trans hb'⟩
theorem del_hold {W w : World} (hG : GW W) (hb : Bel W w) {v : Value} {l : List Pd} (h : Hold W w v l) :
    Calls Try.prog 65 #[v, .func (.func 67) #[] #[]] w fun e w' => ∃ v', e = .returned v' ∧ Bel W w' ∧ Hold W w' v' (l.filter fun p => !badP p) := by
  rcases h with ⟨rfl, A, c, rfl, hc, hA⟩ | ⟨g, n, c, rfl, hg, h⟩
  · exact (del_empty hG hb hc hA).mono fun e w' ⟨he, hb'⟩ => ⟨_, he, hb', .inl ⟨rfl, A, c, rfl, hc, hA⟩⟩
  · refine (del_calls hG hb hg h).mono ?_
    rintro e w' ⟨g', c', rfl, hb', hg', hle, hm, hr⟩
    refine ⟨_, rfl, hb', ?_⟩
    by_cases h0 : 0 < (l.filter fun p => !badP p).length
    · exact .inr ⟨g', _, c', rfl, hg', hr h0⟩
    · have e0 : l.filter (fun p => !badP p) = [] := List.eq_nil_of_length_eq_zero (by omega)
      refine .inl ⟨e0, _, c', by rw [e0]; rfl, hm, by simp⟩
theorem sort_hold {W w : World} (hb : Bel W w) {v : Value} {l : List Pd} (h : Hold W w v l) (hn : l.length < 4611686018427387904) :
    Calls Try.prog 68 #[v, .func (.func 69) #[] #[]] w fun e w' => e = .returned (.tuple #[]) ∧ Bel W w' ∧ Hold W w' v (sortU l) := by
  rcases h with ⟨rfl, A, c, rfl, hc, hA⟩ | ⟨g, n, c, rfl, hg, h⟩
  · refine (AnyF.slices_SortFunc_none sortP A c (.func (.func 69) #[] #[]) w).mono ?_
    rintro e w' ⟨rfl, rfl⟩
    have : sortU [] = [] := List.eq_nil_of_length_eq_zero (by rw [(sortU_spec []).2.1]; rfl)
    exact ⟨rfl, hb, .inl ⟨this, A, c, rfl, hc, hA⟩⟩
  · have hl := h.2.1
    exact (sort_calls hb hg h (by omega)).mono fun e w' ⟨he, hb', hr⟩ => ⟨he, hb', .inr ⟨g, n, c, rfl, hg, hr⟩⟩
/-- what Union returns -/
def unionU (l : List Pd) : List Pd := mergeU [] (sortU (l.filter fun p => !badP p))
theorem union_canon (n : Nat) (l : List Pd) (i j : Int) (b : List Pd) : canon (headOf lv 44 (getLoop (cdF Try.f44) 5)) (union_l5_s.c.enc ((n, l, i, j), b)).st = (union_l5_s.c.enc ((n, l, i, j), b)).st := by
  have h : canK (headOf lv 44 (getLoop (cdF Try.f44) 5)) (union_l5_s.c.enc ((n, l, i, j), b)).st (fun ls => some ls) = some (union_l5_s.c.enc ((n, l, i, j), b)) := by kernel_rfl
  obtain ⟨ls, h1, h2⟩ := canK_ok h
  rw [h1, Option.some.inj h2]
theorem clone_hold {W : World} (hG : GW W) {Z Y : ZMap} (hZ : ∀ b o u, Z b o = some u → W.cell? ⟨b, o, none⟩ = some u) (hY : ∀ b o u, Y b o = some u → W.cell? ⟨b, o, none⟩ = some u) {u : Value} {l : List Pd} (hl : l.length ≤ 1000000) (hr : RepC Z u (.sl (ec_58.encL l))) :
    Calls Try.prog 66 #[u] W fun e w' => ∃ v, e = .returned v ∧ Bel W w' ∧ Hold W w' v l := by
  have ok := Call_sound Try.prog lv X0 mo_ok X0_ok (fS_call (uclone_sp l (by omega)))
  refine (ok.2.2 W Z Y _ hG hZ hY rfl ?_).mono fun e w' => ?_
  · intro i x y hx hy
    match i with
    | 0 => simp at hx; subst hx; injection hy with hy; subst hy; exact .c hr
    | i + 1 => simp at hx
  · rintro ⟨cv, Z', m', rfl, _, R, r, _⟩
    refine ⟨cv, rfl, R.bel, ?_⟩
    have hrow := R.row 0 (ec_58.encL l) rfl
    have r' : Rep Z' (fun _ _ => none) m' cv (.row 0 l.length) := r
    cases r' with
    | row _ _ A c hm hA =>
      rcases hrow with ⟨h0, h1⟩ | ⟨g, n, c1, k, h0, hat⟩
      · rw [hm] at h0
        injection h0 with h0; injection h0 with a1 a2 a3
        subst a1 a3
        have : l = [] := List.eq_nil_of_length_eq_zero a2
        subst this
        exact .inl ⟨rfl, none, 0, rfl, by simp, fun _ => rfl⟩
      · rw [hm] at h0
        injection h0 with h0; injection h0 with a1 a2 a3
        subst a1 a2 a3
        have hmx := hat.max
        by_cases hl0 : l = []
        · subst hl0
          exact .inl ⟨rfl, _, c, rfl, hmx, by simp⟩
        · have hk2 : k = 2 := by
            obtain ⟨x, xs, rfl⟩ := List.exists_cons_of_ne_nil hl0
            exact (hat.each _ (List.mem_map_of_mem (List.mem_cons_self ..))).symm
          subst hk2
          obtain ⟨t, fz, cur, hv, hcs, hfz, hcell⟩ := hat.ex
          have hpos : 0 < l.length := List.length_pos_iff.2 hl0
          refine .inr ⟨g, l.length, c, rfl, hat.base, ⟨t, fz, cur, hv, hcs, hfz, fun q x hx => ?_⟩, rfl, hat.le, hmx, hpos⟩
          have he : (ec_58.encL l)[q]? = some [.int .i64 x.From, .int .i64 x.To] := by rw [EC.encL, List.getElem?_map, hx]; rfl
          obtain ⟨u0, a0, b0⟩ := hcell q _ 0 _ he rfl
          obtain ⟨u1, a1, b1⟩ := hcell q _ 1 _ he rfl
          cases b0; cases b1
          exact ⟨a0, a1⟩
end Go.Proofs.Ytbbaldhmeifloaa
