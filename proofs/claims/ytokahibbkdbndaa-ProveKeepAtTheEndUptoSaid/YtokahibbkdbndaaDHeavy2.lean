/- Operations that read memory or make some: rows. -/
import Derived.Test.YtokahibbkdbndaaDHeavy
namespace Go.Proofs.Ytokahibbkdbndaa
open Go.RowKit
section
variable {P : Program} {Z Y : ZMap} {m : Nat → Option Value} {w0 : WB} {w w' : World} {h hv : Nat → Option B} {sh : Nat → Bool}

theorem Rel.new_row (R : Rel w0 Z Y m h sh w) {base : Nat} {es : List (List C)} {cur : Array Value} {n c k : Nat} (t : TypeId) (fz : Nat × Nat) (hm : m base = none) (hlen : es.length = n) (hnc : n ≤ c) (hc : c ≤ maxLen) (hk : 0 < k) (h0 : n = 0 → c = 0) (hsz : cur.size = c * k) (hfz : ∀ o, o < cur.size → ¬ (fz.1 ≤ o ∧ o < fz.2))
    (each : ∀ e ∈ es, e.length = k) (hcell : ∀ (i : Nat) (e : List C) (j : Nat) (x : C), es[i]? = some e → e[j]? = some x → ∃ u, cur[i * k + j]? = some u ∧ RepC Z u x) :
    Rel w0 Z Y (upd m base (some (.slice (some ⟨w.heap.size, 0, none⟩) n c))) (upd h base (some (.row es))) sh (w.alloc (.cells cur t fz)) :=
  R.new hm (.inr trivial) (.inr (.inl ⟨es, n, c, k, rfl, rfl, ⟨.inl R.bel.size, ⟨t, fz, cur, heap_alloc_new w _, hsz, hfz, hcell⟩, hlen, hnc, hc, hk, h0, each, fun o ho => by
    cases hz : Z w.heap.size o with
    | none => exact absurd hz ho
    | some u => have := R.z_lt hz; omega⟩⟩))
theorem Rel.new_tab (R : Rel w0 Z Y m h sh w) {base : Nat} {es : List (List C)} {cur : Array Value} {n c : Nat} {v : V} (t : TypeId) (fz : Nat × Nat) (hm : m base = none) (hlen : es.length = n) (hnc : n ≤ c) (hsz : cur.size = c) (hfz : ∀ o, o < cur.size → ¬ (fz.1 ≤ o ∧ o < fz.2))
    (each : ∀ e ∈ es, e.length = 1) (hcell : ∀ (i : Nat) (e : List C) (j : Nat) (x : C), es[i]? = some e → e[j]? = some x → ∃ u, cur[i * 1 + j]? = some u ∧ RepC Z u x) :
    Rel w0 Z Y (upd m base (some (.slice (some ⟨w.heap.size, 0, none⟩) n c))) (upd h base (some (.tab es n v))) sh (w.alloc (.cells cur t fz)) :=
  R.new hm (.inr trivial) (.inr (.inr ⟨es, n, v, n, c, rfl, rfl, ⟨.inl R.bel.size, ⟨t, fz, cur, heap_alloc_new w _, hsz, hfz, fun j x hx => by
    unfold tabC at hx
    rw [List.set_eq_of_length_le (by simp [hlen]), List.getElem?_map] at hx
    cases he : es[j]? with
    | none => rw [he] at hx; cases hx
    | some e =>
      rw [he] at hx
      injection hx with hx; subst hx
      have h1 := each e (List.mem_of_getElem? he)
      match e, h1 with
      | [z], _ =>
        obtain ⟨u, hu, hr⟩ := hcell j [z] 0 z he rfl
        exact ⟨u, by simpa using hu, hr.one, .c hr⟩⟩, by simp [tabC, hlen], hnc, fun o => by
    cases hz : Z w.heap.size o with
    | none => rfl
    | some u => have := R.z_lt hz; omega⟩⟩))

/-- cells that lie in a row as elements do -/
def Laid (Z : ZMap) (k : Nat) (es : List (List C)) (cur : Array Value) : Prop := (∀ e ∈ es, e.length = k) ∧ ∀ (i : Nat) (e : List C) (j : Nat) (x : C), es[i]? = some e → e[j]? = some x → ∃ u, cur[i * k + j]? = some u ∧ RepC Z u x

theorem Laid.mono {Z' : ZMap} {k : Nat} {es : List (List C)} {cur : Array Value} (h : Laid Z k es cur) (hz : ZLe Z Z') : Laid Z' k es cur :=
  ⟨h.1, fun i e j x he hx => let ⟨u, hu, hr⟩ := h.2 i e j x he hx; ⟨u, hu, hr.mono hz⟩⟩

theorem laid_zero {k len : Nat} {zc : List C} {zs : Array Value} (hl : zc.length = k) (hs : zs.size = k) (hr : ∀ (j : Nat) u x, zs[j]? = some u → zc[j]? = some x → RepC Z u x) :
    Laid Z k (List.replicate len zc) ((Array.range (len * k)).map (zs[· % zs.size]!)) := by
  refine ⟨fun e he => by rw [List.eq_of_mem_replicate he]; exact hl, fun i e j x he hx => ?_⟩
  rw [List.getElem?_replicate] at he
  split at he
  · rename_i hi
    injection he with he; subst he
    have hj := (List.getElem?_eq_some_iff.1 hx).1
    rw [hl] at hj
    have hlt : i * k + j < len * k := by
      have : (i + 1) * k ≤ len * k := Nat.mul_le_mul_right k hi
      rw [Nat.add_mul] at this
      omega
    refine ⟨zs[j]'(by omega), ?_, hr j _ x (Array.getElem?_eq_getElem _) hx⟩
    have e : (i * k + j) % zs.size = j := by rw [hs, Nat.add_comm, Nat.add_mul_mod_self_right]; exact Nat.mod_eq_of_lt hj
    simp only [Array.getElem?_map, Array.getElem?_range, hlt, if_true, Option.map_some, e]
    rw [getElem!_pos zs j (by omega)]
  · cases he

theorem build_sim {k len : Nat} {r : Operand → V} {ρ : Operand → Value} (hk : 0 < k) (hs : ∀ id b, hv id = some b → h id = some b) : ∀ (ps : List (Nat × Operand)) {Z : ZMap} {sh : Nat → Bool} {es : List (List C)} {cur : Array Value} {y : List (List C) × List Nat},
    Rel w0 Z Y m h sh w → (∀ x, Rep Z Y m (ρ x) (r x)) → buildS hv k len r ps es = some y → es.length = len → cur.size = len * k → Laid Z k es cur →
    ∃ Z' cur', ZUp w0 Z Z' ∧ Rel w0 Z' Y m h (flag sh y.2) w ∧ y.1.length = len ∧ cur'.size = len * k ∧ Laid Z' k y.1 cur' ∧ Instr.fill (fun i => some (i * k, k)) cur (ps.map fun p => (p.1, ρ p.2)) = some cur'
  | [], Z, sh, es, cur, y, R, _, hb, hl, hc, hla => by
    injection hb with hb; subst hb
    exact ⟨Z, cur, ZUp.refl, by rw [flag_nil]; exact R, hl, hc, hla, rfl⟩
  | (i, x) :: ps, Z, sh, es, cur, y, R, hρ, hb, hl, hc, hla => by
    simp only [buildS] at hb
    split at hb
    · rename_i hi
      cases hcx : (r x).cells with
      | none => rw [hcx] at hb; cases hb
      | some vs =>
        rw [hcx] at hb
        simp only [Option.bind_some] at hb
        cases hf : frzL hv vs with
        | none => rw [hf] at hb; cases hb
        | some a =>
          rw [hf] at hb
          simp only [Option.bind_some] at hb
          split at hb
          · rename_i hak
            cases hb2 : buildS hv k len r ps (es.set i a.1) with
            | none => rw [hb2] at hb; cases hb
            | some y' =>
              rw [hb2] at hb
              injection hb with hb; subst hb
              have rc := (hρ x).cells hcx
              obtain ⟨Z1, u1, R1, l1, r1⟩ := frzL_sim vs (us := (ρ x).cells.toList) R hs hf (by simpa using rc.agg_size) (fun j u z hu hz => by
                obtain ⟨u', hu', hr', _⟩ := rc.agg_get hz
                rw [Array.getElem?_toList, hu'] at hu
                injection hu with hu; subst hu; exact hr')
              have hvk : (ρ x).cells.size = k := by rw [rc.agg_size, ← l1]; exact hak
              have hik : i * k + k ≤ len * k := by
                have : (i + 1) * k ≤ len * k := Nat.mul_le_mul_right k hi
                rw [Nat.add_mul] at this
                omega
              obtain ⟨s1, g1⟩ := fold_get (i * k) (ρ x).cells.toList 0 cur
              have hla1 : Laid Z1 k (es.set i a.1) (((ρ x).cells.toList.zipIdx 0).foldl (fun (cs : Array Value) (p : Value × Nat) => cs.setIfInBounds (i * k + p.2) p.1) cur) := by
                refine ⟨fun e he => ?_, fun i' e j z he hz => ?_⟩
                · rcases List.mem_or_eq_of_mem_set he with he | he
                  · exact hla.1 e he
                  · subst he; exact hak
                · have hi'l : i' < len := by have := (List.getElem?_eq_some_iff.1 he).1; simpa [hl] using this
                  have hek : e.length = k := by
                    rcases List.mem_or_eq_of_mem_set (List.mem_of_getElem? he) with he | he
                    · exact hla.1 e he
                    · subst he; exact hak
                  have hj : j < k := by have := (List.getElem?_eq_some_iff.1 hz).1; omega
                  have hlt : i' * k + j < cur.size := by
                    rw [hc]
                    have : (i' + 1) * k ≤ len * k := Nat.mul_le_mul_right k hi'l
                    rw [Nat.add_mul] at this
                    omega
                  rw [g1 _ hlt]
                  simp only [Array.length_toList, hvk, Nat.add_zero]
                  by_cases e' : i' = i
                  · subst e'
                    rw [List.getElem?_set_self (by omega)] at he
                    injection he with he; subst he
                    rw [if_pos (by omega)]
                    have hsub : i' * k + j - i' * k = j := by omega
                    rw [hsub]
                    have hju : (ρ x).cells.toList[j]? = some ((ρ x).cells[j]'(by omega)) := by simp
                    exact ⟨_, hju, r1 j _ z hju hz⟩
                  · rw [List.getElem?_set_ne (Ne.symm e')] at he
                    rw [if_neg (by
                      intro hcon
                      rcases Nat.lt_or_gt_of_ne e' with hlt' | hgt'
                      · have : (i' + 1) * k ≤ i * k := Nat.mul_le_mul_right k hlt'
                        rw [Nat.add_mul] at this
                        omega
                      · have : (i + 1) * k ≤ i' * k := Nat.mul_le_mul_right k hgt'
                        rw [Nat.add_mul] at this
                        omega)]
                    obtain ⟨u, hu, hr⟩ := hla.2 i' e j z he hz
                    exact ⟨u, hu, hr.mono u1.le⟩
              obtain ⟨Z2, cur', u2, R2, l2, c2, la2, f2⟩ := build_sim (ρ := ρ) hk hs ps (es := es.set i a.1) R1 (fun z => (hρ z).mono u1.le (MLe.refl _)) hb2 (by simpa using hl) (by rw [s1]; exact hc) hla1
              refine ⟨Z2, cur', u1.trans u2, by rw [← flag_append]; exact R2, l2, c2, la2, ?_⟩
              simp only [List.map_cons, Instr.fill]
              rw [if_neg (by simp [hvk]; omega), ← Array.foldl_toList, Array.toList_zipIdx]
              exact f2
          · cases hb
    · cases hb
end
end Go.Proofs.Ytokahibbkdbndaa
