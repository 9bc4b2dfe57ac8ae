/- Lists of lists that the caller hands in; how many elements they have. -/
import Derived.Test.YtbbaldhmeifloaaY9
import Derived.Test.YtbbaldhmeifloaaGE
import Derived.SizedLaws
namespace Go.Proofs.Ytbbaldhmeifloaa
open Go.ChangeShapes Go.WideShapes Go.ChangeAt Go.RowKit Go.Deep

section
variable {H : Type} {enc : TypeId × Value → H} {P : Program}
/-- the rows of a slice's elements -/
theorem open_rowsW {w : World} {base : Nat} {spare : Nat → Bool} {held : Bool} {t e : TypeId} {k fuel : Nat} {v : Value} {x : DataW H × List MemPlace} (ht : P.underlying t = some (.slice e)) (hC : P.cellsOf e = k) (hk : 0 < k)
    (hone : ∀ fuel cs y, DataW.trod enc P w base spare held fuel e cs = some y → ∀ u ∈ cs, u.oneCell' = true)
    (h : DataW.trod enc P w base spare held fuel t [v] = some x) :
    ∃ A n c css, v = .slice A n c ∧ Rd w k A n c (List.flatten css) ∧ css.length = n ∧ ∀ cs ∈ css, cs.length = k ∧ ∃ fuel y, DataW.trod enc P w base spare held fuel e cs = some y ∧ ∃ elems sp, x.1 = .slice elems sp ∧ y.1 ∈ elems := by
  rcases open_slice ht h with ⟨hcs, _⟩ | ⟨a, len, cap, m, n, D, Pl, hcs, _, hl, hm, hmm, hxx, hi⟩
  · injection hcs with hcs
    exact ⟨none, 0, 0, [], hcs, Rd.nil, rfl, by simp⟩
  · injection hcs with hcs
    have hlm : len ≤ m := by rw [hmm]; split <;> omega
    have hex : ∀ i, i < len → ∃ cs', w.cells? base (a.add (i * k)) k = some cs' ∧ DataW.trod enc P w base spare held n e cs' = some (D i, Pl i) := fun i hi' => by
      have := hi i (by omega)
      rwa [hC] at this
    obtain ⟨C, hCC⟩ := choose_lt (α := List Value) (p := fun i cs' => w.cells? base (a.add (i * k)) k = some cs' ∧ DataW.trod enc P w base spare held n e cs' = some (D i, Pl i)) hex
    have hlen : ∀ i, i < len → (C i).length = k := fun i hi' => (World.cells?_some (hCC i hi').1).2.1
    have hcell : ∀ i, i < len → ∀ j, j < k → w.cell? (a.add (i * k + j)) = (C i)[j]? := fun i hi' j hj => by
      have := (World.cells?_some (hCC i hi').1).2.2 j hj
      rwa [Go.Deep.add_add] at this
    have hfl : ∀ m', m' ≤ len → (((List.range m').map C).flatten).length = m' * k := by
      intro m' hm'
      induction m' with
      | zero => simp
      | succ m' ih =>
        rw [List.range_succ, List.map_append, List.flatten_append, List.length_append, ih (by omega)]
        simp [hlen m' (by omega), Nat.add_mul]
    have hget : ∀ m', m' ≤ len → ∀ i j, i < m' → j < k → (((List.range m').map C).flatten)[i * k + j]? = (C i)[j]? := by
      intro m' hm'
      induction m' with
      | zero => intro i j hi'; omega
      | succ m' ih =>
        intro i j hi' hj
        rw [List.range_succ, List.map_append, List.flatten_append]
        rcases Nat.lt_or_ge i m' with h' | h'
        · rw [List.getElem?_append_left (by
            rw [hfl m' (by omega)]
            have : (i + 1) * k ≤ m' * k := Nat.mul_le_mul_right k h'
            rw [Nat.add_mul] at this
            omega)]
          exact ih (by omega) i j h' hj
        · have : i = m' := by omega
          subst this
          rw [List.getElem?_append_right (by rw [hfl i (by omega)]; omega), hfl i (by omega)]
          simp
    refine ⟨some a, len, cap, (List.range len).map C, hcs, ⟨by rw [hfl len (Nat.le_refl _)], hl, hm, ?_, ?_⟩, by simp, ?_⟩
    · intro u hu
      obtain ⟨cs, hcs', hu'⟩ := List.mem_flatten.1 hu
      obtain ⟨i, hi', rfl⟩ := List.mem_map.1 hcs'
      exact hone n _ _ (hCC i (by simpa using hi')).2 u hu'
    · intro hpos
      have hl0 : 0 < len := Nat.pos_of_mul_pos_right hpos
      have h00 := hcell 0 hl0 0 hk
      have hc0 : (C 0)[0]? = some ((C 0)[0]'(by rw [hlen 0 hl0]; exact hk)) := List.getElem?_eq_getElem _
      rw [hc0] at h00
      have hadd : (a.add (0 * k + 0)) = a := by simp [Addr.add]
      rw [hadd] at h00
      obtain ⟨b, off, spot⟩ := a
      have hsp : spot = none := by
        cases spot with
        | none => rfl
        | some s =>
          unfold World.cell? at h00
          split at h00 <;> simp at h00
      subst hsp
      refine ⟨b, off, rfl, ?_, ?_⟩
      · rcases Nat.lt_or_ge b w.heap.size with hlt | hge
        · exact hlt
        · unfold World.cell? at h00
          rw [Array.getElem?_eq_none hge] at h00
          cases h00
      · intro j u hu
        have hjl : j < len * k := by
          rw [← hfl len (Nat.le_refl _)]
          rcases Nat.lt_or_ge j ((List.range len).map C).flatten.length with h' | h'
          · exact h'
          · rw [List.getElem?_eq_none h'] at hu; cases hu
        have hdm : j / k * k + j % k = j := by rw [Nat.mul_comm]; exact Nat.div_add_mod j k
        have hdl : j / k < len := (Nat.div_lt_iff_lt_mul hk).2 hjl
        have h1 := hcell (j / k) hdl (j % k) (Nat.mod_lt _ hk)
        have h2 := hget len (Nat.le_refl _) (j / k) (j % k) hdl (Nat.mod_lt _ hk)
        rw [hdm] at h1 h2
        rw [h2] at hu
        rw [hu] at h1
        rw [← h1]
        unfold Addr.add
        split
        · rename_i h0; subst h0; rfl
        · rfl
    · intro cs hcs'
      obtain ⟨i, hi', rfl⟩ := List.mem_map.1 hcs'
      exact ⟨hlen i (by simpa using hi'), n, _, (hCC i (by simpa using hi')).2, _, _, by rw [hxx], List.mem_map.2 ⟨i, hi', rfl⟩⟩

end
/-- a list's elements, each of a kind -/
theorem rows_repW {H : Type} {enc : TypeId × Value → H} {w : World} {t e : TypeId} {k fuel : Nat} {v : Value} {x : DataW H × List MemPlace} {τ : Type} (E : EC τ) (ht : Try.prog.underlying t = some (.slice e)) (hC : Try.prog.cellsOf e = k) (hk : 0 < k)
    (Q : DataW H → Prop) (R : τ → Prop) (hQ : ∀ elems sp, x.1 = .slice elems sp → ∀ d ∈ elems, Q d) (hE : ∀ fuel cs y, DataW.trod enc Try.prog w 0 (fun _ => true) true fuel e cs = some y → Q y.1 → ∃ a : τ, RepL (Zw w) cs (E.enc a) ∧ R a)
    (h1 : ∀ fuel cs y, DataW.trod enc Try.prog w 0 (fun _ => true) true fuel e cs = some y → ∀ u ∈ cs, u.oneCell' = true)
    (h : DataW.trod enc Try.prog w 0 (fun _ => true) true fuel t [v] = some x) : ∃ l : List τ, RepC (Zw w) v (.sl (E.encL l)) ∧ ∀ a ∈ l, R a := by
  obtain ⟨A, n, c, css, hv, hr, hn, hcs⟩ := open_rowsW ht hC hk h1 h
  subst hv
  haveI : Inhabited τ := ⟨E.dec []⟩
  obtain ⟨F, hF⟩ := choose_lt (α := τ) (n := css.length) (p := fun i a => (∀ cs, css[i]? = some cs → RepL (Zw w) cs (E.enc a)) ∧ R a) (fun i hi => by
    obtain ⟨_, fuel, y, hy, elems, sp, hx, hm⟩ := hcs _ (List.getElem_mem hi)
    obtain ⟨a, ha, hra⟩ := hE fuel _ y hy (hQ elems sp hx _ hm)
    exact ⟨a, fun cs h => by rw [List.getElem?_eq_getElem hi] at h; injection h with h; subst h; exact ha, hra⟩)
  refine ⟨(List.range css.length).map F, rd_rep hr hn (nil_cap ht h) hk (fun cs hc => (hcs cs hc).1) (by simp [EC.encL]) ?_, fun a ha => by obtain ⟨i, hi, rfl⟩ := List.mem_map.1 ha; exact (hF i (by simpa using hi)).2⟩
  intro i cs e h1 h2
  have hi : i < css.length := (List.getElem?_eq_some_iff.1 h1).1
  rw [EC.encL, List.getElem?_map, List.getElem?_map, List.getElem?_range hi] at h2
  simp only [Option.map_some, Option.some.injEq] at h2
  subst h2
  exact (hF i hi).1 cs h1

/-- an element of type []api.Period, and its length -/
theorem open_persE {H : Type} {enc : TypeId × Value → H} {w : World} {fuel : Nat} {cs : List Value} {y : DataW H × List MemPlace} (h : DataW.trod enc Try.prog w 0 (fun _ => true) true fuel 45 cs = some y) (hQ : ∀ elems sp, y.1 = .slice elems sp → (elems.length + sp.length) * 16 ≤ reachBytes) :
    ∃ l : List Pd, RepL (Zw w) cs (ec_45.enc l) ∧ l.length ≤ 8796093022208 := by
  have hform : ∃ v, cs = [v] := by
    rcases open_slice Try.underlying45 h with ⟨hcs, _⟩ | ⟨a, len, cap, m, n, D, Pl, hcs, _⟩
    · exact ⟨_, hcs⟩
    · exact ⟨_, hcs⟩
  obtain ⟨v, rfl⟩ := hform
  obtain ⟨l, hr⟩ := rows_rep (k := 2) ec_58 Try.underlying45 (by kernel_rfl) (by decide) (fun _ _ _ hy => open_perL hy) h
  refine ⟨l, ⟨hr, trivial⟩, ?_⟩
  have hlen : ∀ A n c, v = .slice A n c → l.length = n := fun A n c e => by
    subst e
    cases hr with
    | sl A n c k b off U es hl hc hm hk hA hz hr' hN => rw [EC.encL_length] at hl; exact hl
  rcases open_slice Try.underlying45 h with ⟨hcs, _⟩ | ⟨a, len, cap, m, n, D, Pl, hcs, _, _, _, _, hx, _⟩
  · injection hcs with hcs
    rw [hlen _ _ _ hcs]; omega
  · injection hcs with hcs
    have h1 := hQ _ _ (by rw [hx])
    rw [hlen _ _ _ hcs]
    simp only [List.length_map, List.length_range] at h1
    unfold reachBytes at h1
    omega
/-- an argument of type [][]api.Period -/
theorem open_perss {H : Type} {enc : TypeId × Value → H} {w : World} {d : DataW H} {p : List MemPlace} {v : Value} (hv : ∃ a n c, v = .slice a n c) (h : DataW.Trod enc Try.prog w 0 (fun _ => true) true 60 v d p)
    (hz : ∀ x ∈ DataW.weights Try.prog 60 d, x ≤ reachBytes) :
    ∃ l : List (List Pd), RepC (Zw w) v (.sl (ec_45.encL l)) ∧ l.length ≤ 9223372036854775807 ∧ ∀ c ∈ l, c.length ≤ 8796093022208 := by
  obtain ⟨a, n, c, rfl⟩ := hv
  obtain ⟨fuel, hf⟩ := h
  have hby : Try.prog.bytesOf 58 = 16 := by kernel_rfl
  have hmem : ∀ (e : TypeId) (l : List (DataW H)) (x : DataW H), x ∈ l → ∀ q ∈ DataW.weights Try.prog e x, q ∈ DataW.weightsAll Try.prog e l := by
    intro e l
    induction l with
    | nil => intro x hx; simp at hx
    | cons y l ih =>
      intro x hx q hq
      simp only [DataW.weightsAll, List.mem_append]
      rcases List.mem_cons.1 hx with rfl | hx
      · exact .inl hq
      · exact .inr (ih x hx q hq)
  obtain ⟨l, hr, hb⟩ := rows_repW (k := 1) ec_45 Try.underlying60 (by kernel_rfl) (by decide) (fun d' => ∀ elems sp, d' = .slice elems sp → (elems.length + sp.length) * 16 ≤ reachBytes) (fun l => l.length ≤ 8796093022208)
    (fun elems sp hd d' hd' e1 s1 he => by
      refine hz _ ?_
      have hd2 : d = .slice elems sp := hd
      rw [hd2]
      simp only [DataW.weights, Try.underlying60, List.mem_cons, List.mem_append]
      refine .inr (.inl (hmem _ _ _ hd' _ ?_))
      rw [he]
      simp only [DataW.weights, Try.underlying45, hby, List.mem_cons]
      exact .inl trivial)
    (fun fuel cs y hy hq => by
      obtain ⟨l, h1, h2⟩ := open_persE hy hq
      exact ⟨l, h1, h2⟩)
    (fun fuel cs y hy u hu => by
      rcases open_slice Try.underlying45 hy with ⟨hcs, _⟩ | ⟨a, len, cap, m, n, D, Pl, hcs, _⟩
      · rw [hcs] at hu; simp at hu; subst hu; rfl
      · rw [hcs] at hu; simp at hu; subst hu; rfl) hf
  refine ⟨l, hr, ?_, hb⟩
  have := rep_max hr
  rwa [EC.encL_length] at this
end Go.Proofs.Ytbbaldhmeifloaa
