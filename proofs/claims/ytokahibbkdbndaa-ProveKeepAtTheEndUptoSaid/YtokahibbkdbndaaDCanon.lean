/- States numbered anew. -/
import Derived.Test.YtokahibbkdbndaaDReg
namespace Go.Proofs.Ytokahibbkdbndaa
open Go.RowKit
section
variable {P : Program} {Z Y : ZMap} {m m' : Nat → Option Value} {w0 : WB} {w w' : World} {h hv : Nat → Option B} {sh : Nat → Bool}

/-- all numbers from nid on stand for nil -/
def nilM (nid : Nat) (m : Nat → Option Value) : Nat → Option Value := fun id => if id < nid then m id else some (.slice none 0 0)
theorem nilM_le {nid : Nat} (hu : ∀ i, m i ≠ none → i < nid) : MLe m (nilM nid m) := fun i v hi => by
  simp only [nilM]; rw [if_pos (hu i (by rw [hi]; simp))]; exact hi
theorem nilC_rep {nid q : Nat} (hu : ∀ i, m i ≠ none → i < nid) (hq : nid ≤ q) {v : Value} {x : V} (h : Rep Z Y m v x) : Rep Z Y (nilM nid m) v (nilC q x) := by
  have h' := h.mono (ZLe.refl Z) (nilM_le hu)
  unfold nilC
  split
  · cases h with | c h =>
    cases h
    exact .row q 0 none 0 (by simp [nilM]; omega) (by simp)
  · cases h with | c h =>
    cases h with
    | zs A => exact .row0 q A (by simp [nilM]; omega)
  · exact h'
theorem nilL_get {nid : Nat} (hu : ∀ i, m i ≠ none → i < nid) : ∀ (cs : List V) (q : Nat), nid ≤ q → (nilL q cs).length = cs.length ∧ ∀ (i : Nat) (u : Value) x y, cs[i]? = some y → (nilL q cs)[i]? = some x → Rep Z Y m u y → Rep Z Y (nilM nid m) u x
  | [], q, _ => ⟨rfl, by simp⟩
  | c :: cs, q, hq => by
    obtain ⟨h1, h2⟩ := nilL_get hu cs (q + 1) (by omega)
    refine ⟨by simp [nilL, h1], fun i u x y hy hx r => ?_⟩
    cases i with
    | zero => simp [nilL] at hx hy; subst hx hy; exact nilC_rep hu hq r
    | succ i => exact h2 i u x y (by simpa using hy) (by simpa [nilL] using hx) r
theorem nilL_rep {nid q : Nat} (hu : ∀ i, m i ≠ none → i < nid) (hq : nid ≤ q) {cs : List V} {vs : Array Value} (h : Rep Z Y m (.agg vs) (.agg cs)) : Rep Z Y (nilM nid m) (.agg vs) (.agg (nilL q cs)) := by
  obtain ⟨h1, h2⟩ := nilL_get (Z := Z) (Y := Y) hu cs q hq
  cases h with
  | agg _ _ hl ho hr =>
    refine .agg vs _ (by rw [h1]; exact hl) ho (fun i u x hu' hx => ?_)
    have hi : i < cs.length := by rw [← h1]; exact (List.getElem?_eq_some_iff.1 hx).1
    exact h2 i u x _ (List.getElem?_eq_getElem hi) hx (hr i u _ hu' (List.getElem?_eq_getElem hi))
theorem nilA_rep {nid q : Nat} (hu : ∀ i, m i ≠ none → i < nid) (hq : nid ≤ q) {v : Value} {x : V} (h : Rep Z Y m v x) : Rep Z Y (nilM nid m) v (nilA q x) := by
  unfold nilA
  split
  · cases h with
    | agg vs _ hl ho hr => exact nilL_rep hu hq (.agg vs _ hl ho hr)
  · exact nilC_rep hu hq h
theorem nilAs_get {nid : Nat} (hu : ∀ i, m i ≠ none → i < nid) : ∀ (cs : List V) (q : Nat), nid ≤ q → (nilAs q cs).length = cs.length ∧ ∀ (i : Nat) (u : Value) x y, cs[i]? = some y → (nilAs q cs)[i]? = some x → Rep Z Y m u y → Rep Z Y (nilM nid m) u x
  | [], q, _ => ⟨rfl, by simp⟩
  | c :: cs, q, hq => by
    obtain ⟨h1, h2⟩ := nilAs_get hu cs (q + 100) (by omega)
    refine ⟨by simp [nilAs, h1], fun i u x y hy hx r => ?_⟩
    cases i with
    | zero => simp [nilAs] at hx hy; subst hx hy; exact nilA_rep hu hq r
    | succ i => exact h2 i u x y (by simpa using hy) (by simpa [nilAs] using hx) r
theorem nilT_rep {nid q : Nat} (hu : ∀ i, m i ≠ none → i < nid) (hq : nid ≤ q) {v : Value} {x : V} (h : Rep Z Y m v x) : Rep Z Y (nilM nid m) v (nilT q x) := by
  unfold nilT
  split
  · rename_i vs
    obtain ⟨h1, h2⟩ := nilAs_get (Z := Z) (Y := Y) hu vs q hq
    cases h with
    | tup us _ hl hr =>
      refine .tup us _ (by rw [h1]; exact hl) (fun i u x hu' hx => ?_)
      have hi : i < vs.length := by rw [← h1]; exact (List.getElem?_eq_some_iff.1 hx).1
      exact h2 i u x _ (List.getElem?_eq_getElem hi) hx (hr i u _ hu' (List.getElem?_eq_getElem hi))
  · exact nilA_rep hu hq h

/-- nil slices as rows -/
theorem Rel.nils (R : Rel w0 Z Y m h sh w) {nid : Nat} (hu : ∀ i, m i ≠ none → i < nid) : Rel w0 Z Y (nilM nid m) (nilH nid h) (nilSh nid sh) w := by
  have hle := nilM_le hu
  refine ⟨R.bel, R.gw, R.zok, R.yok, fun id cs hi => ?_, fun id es hi => ?_, fun id es i v hi => ?_, fun id id' g h1 h2 e1 e2 => ?_⟩
  · unfold nilH at hi
    split at hi
    · rename_i hlt
      cases hb : h id with
      | none => rw [hb] at hi; cases hi
      | some b =>
        rw [hb] at hi
        injection hi with hi
        cases b with
        | row es => cases hi
        | tab es i v => cases hi
        | box cs0 =>
          injection hi with hi; subst hi
          obtain ⟨g, hm, hat⟩ := R.box id cs0 hb
          obtain ⟨t, vs, hv, hr⟩ := hat.ex
          exact ⟨g, hle _ _ hm, ⟨hat.base, ⟨t, vs, hv, nilL_rep hu (by omega) hr⟩, hat.apart⟩⟩
    · cases hi
  · unfold nilH at hi
    split at hi
    · rename_i hlt
      cases hb : h id with
      | none => rw [hb] at hi; cases hi
      | some b =>
        rw [hb] at hi
        injection hi with hi
        cases b with
        | box cs0 => cases hi
        | tab es i v => cases hi
        | row es0 =>
          injection hi with hi; subst hi
          have hs : nilSh nid sh id = sh id := by simp [nilSh, hlt]
          rw [hs]
          rcases R.row id es0 hb with ⟨h0, h1⟩ | ⟨g, n, c, k, hm, hat⟩
          · exact .inl ⟨hle _ _ h0, h1⟩
          · exact .inr ⟨g, n, c, k, hle _ _ hm, hat⟩
    · rename_i hge
      injection hi with hi; injection hi with hi; subst hi
      exact .inl ⟨by simp [nilM, hge], rfl⟩
  · unfold nilH at hi
    split at hi
    · cases hb : h id with
      | none => rw [hb] at hi; cases hi
      | some b =>
        rw [hb] at hi
        injection hi with hi
        cases b with
        | row es => cases hi
        | box cs0 => cases hi
        | tab es0 i0 v0 =>
          injection hi with a1 a2 a3; subst a1 a2 a3
          obtain ⟨g, n, c, hm, hat⟩ := R.tab id _ _ _ hb
          have hat := hat.up (ZLe.refl _) hle (fun _ h => h) hat.apart
          obtain ⟨t, fz, cur, hv, hcs, hfz, hcell⟩ := hat.ex
          refine ⟨g, n, c, hle _ _ hm, ⟨hat.base, ⟨t, fz, cur, hv, hcs, hfz, fun q x hx => ?_⟩, by have := hat.len; simpa [tabC] using this, hat.le, hat.apart⟩⟩
          have hq : q < es0.length := by have := (List.getElem?_eq_some_iff.1 hx).1; simpa [tabC] using this
          unfold tabC at hx
          by_cases hqi : q = i0
          · subst hqi
            rw [List.getElem?_set_self (by simpa using hq)] at hx
            injection hx with hx; subst hx
            obtain ⟨g', n', c', hm', hat'⟩ := R.tab id _ _ _ hb
            rw [hm] at hm'
            injection hm' with hm'; injection hm' with a1 a2 a3; injection a1 with a1; injection a1 with a1
            subst a1 a2 a3
            obtain ⟨t', fz', cur', hv', _, _, hcell'⟩ := hat'.ex
            rw [hv] at hv'
            injection hv' with hv'; injection hv' with b1 b2 b3; subst b1 b2 b3
            obtain ⟨u, a, b, r⟩ := hcell' q v0 (by unfold tabC; rw [List.getElem?_set_self (by simpa using hq)])
            exact ⟨u, a, b, nilC_rep hu (by omega) r⟩
          · rw [List.getElem?_set_ne (Ne.symm hqi)] at hx
            exact hcell q x (by unfold tabC; rw [List.getElem?_set_ne (Ne.symm hqi)]; exact hx)
    · cases hi
  · have hlt : ∀ q g, blkOf (nilM nid m) q = some g → q < nid := fun q g hg => by
      rcases Nat.lt_or_ge q nid with h | h
      · exact h
      · simp [blkOf, nilM, Nat.not_lt.2 h] at hg
    have c1 := hlt id g e1
    have c2 := hlt id' g e2
    refine R.inj id id' g ?_ ?_ ?_ ?_
    · simp [nilH, c1] at h1; exact h1
    · simp [nilH, c2] at h2; exact h2
    · simpa [blkOf, nilM, c1] using e1
    · simpa [blkOf, nilM, c2] using e2

/-- numbered anew -/
theorem Rel.renum (R : Rel w0 Z Y m h sh w) (l : List Nat) (hl : l.Nodup) : Rel w0 Z Y (fun j => (l[j]?).bind m) (fun j => ((l[j]?).bind h).map (B.renO (fun id => pos id l))) (fun j => ((l[j]?).map sh).getD false) w := by
  have hm : ∀ id j v, pos id l = some j → m id = some v → (fun j => (l[j]?).bind m) j = some v := fun id j v hp hv => by
    show (l[j]?).bind m = some v
    rw [pos_get hp]; exact hv
  refine ⟨R.bel, R.gw, R.zok, R.yok, fun j cs hj => ?_, fun j es hj => ?_, fun j es i v hj => ?_, fun j j' g h1 h2 e1 e2 => ?_⟩
  · cases hlj : l[j]? with
    | none => rw [hlj] at hj; cases hj
    | some id =>
      rw [hlj] at hj
      simp only [Option.bind_some] at hj
      cases hb : h id with
      | none => rw [hb] at hj; cases hj
      | some b =>
        rw [hb] at hj
        injection hj with hj
        cases b with
        | row es => cases hj
        | tab es i v => cases hj
        | box cs0 =>
          injection hj with hj; subst hj
          obtain ⟨g, hmg, hat⟩ := R.box id cs0 hb
          obtain ⟨t, vs, hv, hr⟩ := hat.ex
          refine ⟨g, hmg, ⟨hat.base, ⟨t, vs, hv, ?_⟩, hat.apart⟩⟩
          cases hr with
          | agg _ _ hll ho hrr => exact .agg vs _ (by simp [hll]) ho (map_rep (fun v x h => aggO_rep hm h) hrr)
  · cases hlj : l[j]? with
    | none => rw [hlj] at hj; cases hj
    | some id =>
      rw [hlj] at hj
      simp only [Option.bind_some] at hj
      cases hb : h id with
      | none => rw [hb] at hj; cases hj
      | some b =>
        rw [hb] at hj
        injection hj with hj
        cases b with
        | box cs => cases hj
        | tab es i v => cases hj
        | row es0 =>
          injection hj with hj; subst hj
          simp only [Option.map_some, Option.getD_some]
          rcases R.row id es0 hb with ⟨h0, h1⟩ | ⟨g, n, c, k, hmg, hat⟩
          · exact .inl ⟨by show (l[j]?).bind m = _; rw [hlj]; exact h0, h1⟩
          · exact .inr ⟨g, n, c, k, by show (l[j]?).bind m = _; rw [hlj]; exact hmg, hat⟩
  · cases hlj : l[j]? with
    | none => rw [hlj] at hj; cases hj
    | some id =>
      rw [hlj] at hj
      simp only [Option.bind_some] at hj
      cases hb : h id with
      | none => rw [hb] at hj; cases hj
      | some b =>
        rw [hb] at hj
        injection hj with hj
        cases b with
        | box cs => cases hj
        | row es0 => cases hj
        | tab es0 i0 v0 =>
          injection hj with a1 a2 a3; subst a1 a2 a3
          obtain ⟨g, n, c, hmg, hat⟩ := R.tab id _ _ _ hb
          obtain ⟨t, fz, cur, hv, hcs, hfz, hcell⟩ := hat.ex
          refine ⟨g, n, c, hmg, ⟨hat.base, ⟨t, fz, cur, hv, hcs, hfz, fun q x hx => ?_⟩, by have := hat.len; simpa [tabC] using this, hat.le, hat.apart⟩⟩
          have hq : q < es0.length := by have := (List.getElem?_eq_some_iff.1 hx).1; simpa [tabC] using this
          by_cases hqi : q = i0
          · subst hqi
            unfold tabC at hx
            rw [List.getElem?_set_self (by simpa using hq)] at hx
            injection hx with hx; subst hx
            obtain ⟨u, a, b, r⟩ := hcell q v0 (by unfold tabC; rw [List.getElem?_set_self (by simpa using hq)])
            exact ⟨u, a, b, aggO_rep hm r⟩
          · unfold tabC at hx
            rw [List.getElem?_set_ne (Ne.symm hqi)] at hx
            obtain ⟨u, a, b, r⟩ := hcell q x (by unfold tabC; rw [List.getElem?_set_ne (Ne.symm hqi)]; exact hx)
            refine ⟨u, a, b, ?_⟩
            rw [List.getElem?_map, List.getElem?_eq_getElem hq] at hx
            injection hx with hx; subst hx
            unfold headV at r ⊢
            split at r
            · cases r with | c r => exact .c r
            · exact .any _
  · have key : ∀ q, ((l[q]?).bind h).map (B.renO (fun id => pos id l)) ≠ none → blkOf (fun j => (l[j]?).bind m) q = some g → ∃ id, l[q]? = some id ∧ h id ≠ none ∧ blkOf m id = some g := by
      intro q hq hg
      cases hlq : l[q]? with
      | none => rw [hlq] at hq; exact absurd rfl hq
      | some id =>
        refine ⟨id, rfl, ?_, ?_⟩
        · rw [hlq] at hq
          intro hn
          rw [Option.bind_some, hn] at hq
          exact hq rfl
        · simpa [blkOf, hlq] using hg
    obtain ⟨id, a1, a2, a3⟩ := key j h1 e1
    obtain ⟨id', b1, b2, b3⟩ := key j' h2 e2
    have := R.inj id id' g a2 b2 a3 b3
    subst this
    obtain ⟨hj, q1⟩ := List.getElem?_eq_some_iff.1 a1
    obtain ⟨hj', q2⟩ := List.getElem?_eq_some_iff.1 b1
    have hp := List.pairwise_iff_getElem.1 hl
    rcases Nat.lt_trichotomy j j' with h | h | h
    · exact absurd (q1.trans q2.symm) (hp j j' hj hj' h)
    · exact h
    · exact absurd (q2.trans q1.symm) (hp j' j hj' hj h)

theorem reach_mem {h : Nat → Option B} {vs : List V} {v : V} {id : Nat} (hv : v ∈ vs) (hi : id ∈ v.ids) : id ∈ reach h vs := by
  unfold reach
  exact dd_mem (List.mem_append_left _ (dd_mem (List.mem_append_left _ (dd_mem (List.mem_flatMap.2 ⟨v, hv, hi⟩)))))
theorem canon_sim {G : Nat → Option Value} {nt : Nat} {s : St} {a : Act} (live : List Nat) (F : FrS G w0 Z Y m nt s a w) (hu : ∀ i, m i ≠ none → i < s.nx) : ∃ m', FrS G w0 Z Y m' nt (canon live s) a w ∧ ∀ i, m' i ≠ none → i < (canon live s).nx := by
  have hl : ∀ L : List V, L = (live.map fun i => nilA (s.nx + 200 * i) (s.t i)) ++ s.og.map (fun id => .ptr id 0) → ∃ m', FrS G w0 Z Y m' nt (canon live s) a w ∧ ∀ i, m' i ≠ none → i < (canon live s).nx := by
    intro L hL
    have hc : canon live s = { t := fun i => if i ∈ live then aggO (fun id => pos id (reach (nilH s.nx s.h) L)) (nilA (s.nx + 200 * i) (s.t i)) else .any
                               h := fun j => (((reach (nilH s.nx s.h) L)[j]?).bind (nilH s.nx s.h)).map (B.renO (fun id => pos id (reach (nilH s.nx s.h) L)))
                               sh := fun j => (((reach (nilH s.nx s.h) L)[j]?).map (nilSh s.nx s.sh)).getD false
                               nx := (reach (nilH s.nx s.h) L).length, lr := fun _ => [], lw := fun _ => [], og := s.og.map fun id => (pos id (reach (nilH s.nx s.h) L)).getD 0 } := by rw [hL]; rfl
    rw [hc]
    refine ⟨fun j => ((reach (nilH s.nx s.h) L)[j]?).bind (nilM s.nx m), ⟨⟨F.fr.size, F.fr.defers, fun i => ?_⟩, ?_, ?_⟩, fun i hi => ?_⟩
    · show Rep _ _ _ _ (if i ∈ live then aggO _ (nilA (s.nx + 200 * i) (s.t i)) else .any)
      split
      · refine aggO_rep (fun id j v hp hv => ?_) (nilA_rep hu (by omega) (F.fr.rep i))
        show Option.bind _ _ = some v
        rw [pos_get hp]; exact hv
      · exact .any _
    · exact (F.rel.nils hu).renum _ (dd_nodup _)
    · intro i id v h1 h2
      simp only [List.getElem?_map, Option.map_eq_some_iff] at h1
      obtain ⟨id0, h1, e⟩ := h1
      have hm := F.og i id0 v h1 h2
      have hmem : id0 ∈ reach (nilH s.nx s.h) L := reach_mem (v := .ptr id0 0) (by rw [hL]; exact List.mem_append_right _ (List.mem_map.2 ⟨id0, List.mem_of_getElem? h1, rfl⟩)) (by simp [V.ids])
      obtain ⟨j, hj⟩ := pos_mem hmem
      rw [hj, Option.getD_some] at e
      subst e
      show Option.bind _ _ = some v
      rw [pos_get hj]
      show nilM s.nx m id0 = some v
      unfold nilM
      rw [if_pos (hu id0 (by rw [hm]; simp))]
      exact hm
    · show i < (reach (nilH s.nx s.h) L).length
      rcases Nat.lt_or_ge i (reach (nilH s.nx s.h) L).length with h | h
      · exact h
      · exfalso; apply hi; simp only; rw [List.getElem?_eq_none h]; rfl
  exact hl _ rfl
end
end Go.Proofs.Ytokahibbkdbndaa
