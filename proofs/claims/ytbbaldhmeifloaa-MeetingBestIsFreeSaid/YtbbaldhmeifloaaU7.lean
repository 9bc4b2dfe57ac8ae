/- freebusy.Union: the rule is sound. -/
import Derived.Test.YtbbaldhmeifloaaU6
namespace Go.Proofs.Ytbbaldhmeifloaa
open Go.RowKit

/-- what is shared from now on -/
def Z1 (W w : World) (Z : ZMap) : ZMap := fun b o => if (Z b o).isSome then Z b o else if W.heap.size ≤ b then w.cell? ⟨b, o, none⟩ else none
theorem Z1_up (W w : World) (Z : ZMap) : ZUp W Z (Z1 W w Z) := by
  refine ⟨fun b o u h => by simp [Z1, h], fun b o u h => ?_⟩
  unfold Z1 at h
  split at h
  · exact .inl h
  · split at h
    · rename_i h1; exact .inr h1
    · cases h
theorem Z1_ok {W w : World} {Z : ZMap} (hb : Bel W w) (hZ : ∀ b o u, Z b o = some u → W.cell? ⟨b, o, none⟩ = some u) : ∀ b o u, Z1 W w Z b o = some u → w.cell? ⟨b, o, none⟩ = some u := by
  intro b o u h
  unfold Z1 at h
  split at h
  · have := hZ b o u h
    rw [hb.cell _ (cell_lt this)]; exact this
  · split at h
    · exact h
    · cases h
/-- a held row, shared from now on -/
theorem Hold.repc {W w : World} {Z : ZMap} {v : Value} {l : List Pd} (h : Hold W w v l) (hb : Bel W w) (hZ : ∀ b o u, Z b o = some u → W.cell? ⟨b, o, none⟩ = some u) : RepC (Z1 W w Z) v (.sl (ec_58.encL l)) := by
  rcases h with ⟨rfl, A, c, rfl, hc, hA⟩ | ⟨g, n, c, rfl, hg, h⟩
  · exact .sl A 0 c 2 0 0 (fun _ => .nilFunc) [] rfl (by simp) hc (by simp) (by simp) (by simp) (by simp) hA
  · have hl := h.2.1
    refine .sl _ n c 2 g 0 (fun j => (w.cell? ⟨g, j, none⟩).getD undef) _ (by simp [hl]) h.2.2.1 h.2.2.2.1 RowP.each (fun _ => rfl) ?_ ?_ (by simp)
    · intro i e j x h1 h2
      obtain ⟨u, hu, _⟩ := h.cell h1 h2
      have hk := Z1_ok (Z := Z) hb hZ g (i * 2 + j)
      simp only [Nat.zero_add, hu, Option.getD_some]
      unfold Z1 at hk ⊢
      split
      · rename_i hs
        obtain ⟨u', hu'⟩ := Option.isSome_iff_exists.1 hs
        rw [hu']
        rw [hs, if_pos rfl] at hk
        have := hk u' hu'
        rw [hu] at this
        exact this.symm
      · first | (rw [if_pos hg, hu]; done) | exact hu | simpa [hg] using hu
    · intro i e j x h1 h2
      obtain ⟨u, hu, hr⟩ := h.cell h1 h2
      simp only [hu, Option.getD_some]
      exact hr _
theorem Hold.slice {W w : World} {v : Value} {l : List Pd} (h : Hold W w v l) : ∃ A c, v = .slice A l.length c := by
  rcases h with ⟨rfl, A, c, rfl, hc, hA⟩ | ⟨g, n, c, rfl, hg, h⟩
  · exact ⟨A, c, rfl⟩
  · exact ⟨_, c, by rw [h.2.1]⟩
set_option maxHeartbeats 4000000 in
set_option maxRecDepth 1000000 in
theorem union_ok (l : List Pd) (hl : l.length ≤ 1000000) : CallOk Try.prog 44 [.c (.sl (ec_58.encL l))] (.row 0 (unionU l).length, [.row (ec_58.encL (unionU l))]) := by
  refine ⟨rfl, (fun b hb => ⟨_, by simpa using hb⟩), fun W Z Y cargs hG hZ hY hs hr => ?_⟩
  have hs1 : cargs.size = 1 := hs
  obtain ⟨u, hu⟩ : ∃ u, cargs[0]? = some u := ⟨cargs[0]'(by omega), Array.getElem?_eq_getElem _⟩
  have r0 := hr 0 u _ hu rfl
  cases r0 with
  | c r0 =>
  obtain rfl : cargs = #[u] := by
    apply Array.ext (by simpa using hs1)
    intro i h1 h2
    have : i = 0 := by simp at h2; omega
    subst this
    rw [Array.getElem?_eq_getElem h1] at hu
    injection hu
  have hcl := clone_hold hG hZ hY hl r0
  have hdel := fun (w : World) (v : Value) (hb : Bel W w) (h : Hold W w v l) => del_hold hG hb h
  have hlF : (l.filter fun p => !badP p).length ≤ l.length := List.length_filter_le _ _
  unfold unionU
  generalize l.filter (fun p => !badP p) = F at *
  have hsort := fun (w : World) (v : Value) (hb : Bel W w) (h : Hold W w v F) => sort_hold hb h (by omega)
  have hlS : (sortU F).length = F.length := (sortU_spec F).2.1
  generalize sortU F = G at *
  have hun := union_loop G (by omega) G.length 0 [] (by omega) (by simp)
  rw [List.drop_zero] at hun
  clear hlS
  generalize mergeU [] G = M at *
  go_enter Try.func44, Try.ntmps44
  go_wp2_with (first | (go_at_call 66; refine hcl.mono ?_; rintro e w1 ⟨v1, rfl, hb1, hh1⟩) | (go_at_call 65; refine (hdel _ _ hb1 hh1).mono ?_; rintro e w2 ⟨v2, rfl, hb2, hh2⟩) | (go_at_call 68; refine (hsort _ _ hb2 hh2).mono ?_; rintro e w3 ⟨rfl, hb3, hh3⟩; obtain ⟨A, c, rfl⟩ := hh3.slice))
  rename_i K hK
  have hrc := hh3.repc hb3 hZ
  have hR : Rel W (Z1 W w3 Z) Z0 (fun i => if i = 0 then some (.slice none 0 0) else none) (fun j => ([some (B.row (ec_58.encL []))][j]?).getD none) (fun j => ([false][j]?).getD false) w3 := by
    refine ⟨hb3, hG, Z1_ok hb3 hZ, (fun _ _ _ h => by cases h), ?_, ?_, ?_, ?_⟩
    · intro id cs h
      cases id <;> simp at h
    · intro id es h
      cases id with
      | succ id => simp at h
      | zero => simp [EC.encL] at h; subst h; exact .inl ⟨by simp, rfl⟩
    · intro id es i v h
      cases id <;> simp at h
    · intro id id' g' h1 h2 _ _
      cases id with
      | succ id => simp at h1
      | zero => cases id' with
        | succ id' => simp at h2
        | zero => rfl
  have ok := lS_ok mo_ok X0_ok hun (union_canon _ _ _ _ _) Z0 W
  refine ok (fun _ => none) (Z1 W w3 Z) _ _ _ ⟨⟨rfl, rfl, fun q => ?_⟩, hR, (fun _ _ _ _ h => by cases h)⟩ ?_ _ ?_
  · show Rep _ _ _ _ (tb [(3, V.row 0 0), (12, V.c (.sl (ec_58.encL G))), (13, V.c (.int .i64 (G.length : Int))), (14, V.c (.int .i64 0))] q)
    match q with
    | 3 => exact .row 0 0 none 0 (by simp) (by simp)
    | 12 => exact .c hrc
    | 13 => exact .c (.int _ _)
    | 14 => exact .c (.int _ _)
    | 0 => exact .any _
    | 1 => exact .any _
    | 2 => exact .any _
    | 4 => exact .any _
    | 5 => exact .any _
    | 6 => exact .any _
    | 7 => exact .any _
    | 8 => exact .any _
    | 9 => exact .any _
    | 10 => exact .any _
    | 11 => exact .any _
    | q + 15 => exact .any _
  · intro q hq
    show q < 1
    cases q with
    | zero => decide
    | succ q => simp at hq
  · intro a' w4 Z' m' hz' hm' F'
    have hsz : a'.tmps.size = 51 := F'.fr.size
    have hdf := F'.fr.defers
    have r3 : Rep Z' Z0 m' (a'.tmps.getD 3 undef) (.row 0 M.length) := F'.fr.rep 3
    have hRel : Rel W Z' Z0 m' (fun j => ([some (B.row (ec_58.encL M))][j]?).getD none) (fun j => ([false][j]?).getD false) w4 := F'.rel
    have hm1 : ∀ i, m' i ≠ none → i < 1 := hm'
    have hlit := act_lit hsz
    obtain ⟨tm, df⟩ := a'
    simp only at hsz hdf r3 hlit
    subst hdf
    generalize hT : (fun i => tm.getD i undef) = T at *
    have hT3 : tm.getD 3 undef = T 3 := by rw [← hT]
    rw [hT3] at r3
    rw [show List.range 51 = [0, 1, 2, 3, 4, 5, 6, 7, 8, 9, 10, 11, 12, 13, 14, 15, 16, 17, 18, 19, 20, 21, 22, 23, 24, 25, 26, 27, 28, 29, 30, 31, 32, 33, 34, 35, 36, 37, 38, 39, 40, 41, 42, 43, 44, 45, 46, 47, 48, 49, 50] from rfl] at hlit
    simp only [List.map_cons, List.map_nil] at hlit
    clear hT hT3 hsz
    subst hlit
    refine hK _ _ ?_
    clear F' ok hR hm' hun
    go_wp2
    go_ret
    have e1 : (fun j : Nat => ([some (B.row (ec_58.encL M))][j]?).getD none) = fun i : Nat => [B.row (ec_58.encL M)][i]? := by
      funext j; cases j <;> rfl
    have e2 : (fun j : Nat => ([false][j]?).getD false) = fun _ => false := by
      funext j; cases j <;> rfl
    rw [e1, e2] at hRel
    exact ⟨T 3, Z', m', rfl, (Z1_up W w3 Z).trans hz', hRel, r3, hm1⟩
end Go.Proofs.Ytbbaldhmeifloaa
