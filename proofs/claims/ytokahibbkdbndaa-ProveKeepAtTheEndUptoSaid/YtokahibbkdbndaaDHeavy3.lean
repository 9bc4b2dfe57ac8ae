/- Operations that read memory or make some: all of them. -/
import Derived.Test.YtokahibbkdbndaaDHeavy2
namespace Go.Proofs.Ytokahibbkdbndaa
open Go.RowKit
section
variable {P : Program} {Z Y : ZMap} {m : Nat → Option Value} {w0 : WB} {w w' : World} {h hv : Nat → Option B} {sh : Nat → Bool}

theorem wp_value {o : Oper} {a : Act} {K : Act → World → Prop} {Q : Exit → Act → World → Prop} {cv : Value} (hr : (execOp a.eval o).run P w = .ok (.value cv) w') (hK : K (a.put o.dst cv) w') : o.wp P a w K Q := by
  unfold Oper.wp
  rw [hr]
  exact hK

theorem run_newRow (e : TypeId) (cells : Array Value) : (newRow e cells).run P w = .ok ⟨w.heap.size, 0, none⟩ (w.alloc (.cells cells e)) := rfl

theorem upd_new {base : Nat} {v : Value} {n : Nat} (hn : 0 < n) : ∀ i, upd m base (some v) i ≠ none → m i ≠ none ∨ (base ≤ i ∧ i < base + n) := by
  intro i hi
  by_cases e : i = base
  · right; omega
  · left; simpa [upd, e] using hi

/-- what a slice's cells hold -/
theorem sl_cells {v : Value} {es : List (List C)} (r : RepC Z v (.sl es)) (R : ∀ b o u, Z b o = some u → w.cell? ⟨b, o, none⟩ = some u) {k : Nat} (hk : ∀ e ∈ es, e.length = k) :
    ∃ A c, v = .slice A es.length c ∧ es.length ≤ c ∧ c ≤ maxLen ∧ (es = [] ∨ ∃ (b off : Nat) (U : Nat → Value), A = some ⟨b, off, none⟩ ∧ (∀ (i : Nat) (e : List C) (j : Nat) (x : C), es[i]? = some e → e[j]? = some x → Z b (off + (i * k + j)) = some (U (i * k + j)) ∧ w.cell? ⟨b, off + (i * k + j), none⟩ = some (U (i * k + j)) ∧ RepC Z (U (i * k + j)) x)) := by
  cases r with
  | sl A n c k' b off U _ hl hc hm hk' hA hz hr hN =>
    subst hl
    refine ⟨A, c, rfl, hc, hm, ?_⟩
    cases es with
    | nil => exact .inl rfl
    | cons e0 es =>
      right
      have hkk : k' = k := by rw [← hk e0 (by simp), hk' e0 (by simp)]
      subst hkk
      exact ⟨b, off, U, hA (by simp), fun i e j x he hx => ⟨hz i e j x he hx, R _ _ _ (hz i e j x he hx), hr i e j x he hx⟩⟩

theorem bytes_each : ∀ {es : List (List C)} {l : List UInt8}, bytesOf es = some l → es.length = l.length ∧ (∀ e ∈ es, e.length = 1) ∧ ∀ (i : Nat) e, es[i]? = some e → ∃ n b, e = [.int .u8 n] ∧ l[i]? = some b ∧ b = UInt8.ofNat n.toNat
  | [], l, h => by
    injection h with h; subst h
    exact ⟨rfl, by simp, by simp⟩
  | e :: es, l, h => by
    unfold bytesOf at h
    split at h
    · cases ‹e :: es = []›
    · rename_i n es' he
      injection he with he1 he2
      subst he1 he2
      cases hb : bytesOf es with
      | none => rw [hb] at h; cases h
      | some l' =>
        rw [hb] at h
        injection h with h; subst h
        obtain ⟨h1, h2, h3⟩ := bytes_each hb
        refine ⟨by simp [h1], fun e he => ?_, fun i e he => ?_⟩
        · rcases List.mem_cons.1 he with rfl | he
          · rfl
          · exact h2 e he
        · cases i with
          | zero => simp at he; subst he; exact ⟨n, _, rfl, rfl, rfl⟩
          | succ i => exact h3 i e (by simpa using he)
    · cases h

theorem bytes_run (f : Value → ByteArray → Sem (ForInStep ByteArray)) (hf : ∀ n s, (f (.int .u8 n) s).run P w = .ok (.yield (s.push (UInt8.ofNat n.toNat))) w) : ∀ (l : List Value) (bs : List UInt8) (s : ByteArray), l.length = bs.length → (∀ (i : Nat) u b, l[i]? = some u → bs[i]? = some b → ∃ n : Int, u = .int .u8 n ∧ b = UInt8.ofNat n.toNat) →
    (forIn l s f).run P w = .ok ⟨s.data ++ bs.toArray⟩ w
  | [], [], s, _, _ => by simp
  | [], _ :: _, _, h, _ => by cases h
  | _ :: _, [], _, h, _ => by cases h
  | u :: l, b :: bs, s, h, hr => by
    obtain ⟨n, rfl, rfl⟩ := hr 0 u b rfl rfl
    have ih := bytes_run f hf l bs (s.push (UInt8.ofNat n.toNat)) (by simpa using h) (fun i u b hu hb => hr (i + 1) u b hu hb)
    simp only [List.forIn_cons, Sem.run_bind, hf, Result.andThen_ok]
    rw [ih]
    congr 1
    cases s
    simp [ByteArray.push]

theorem bytes_sim {v : Value} {es : List (List C)} {l : List UInt8} (hz : ∀ b o u, Z b o = some u → w.cell? ⟨b, o, none⟩ = some u) (r : RepC Z v (.sl es)) (hb : bytesOf es = some l) : (Conv.bytesToString v).run P w = .ok (.string ⟨l.toArray⟩) w := by
  obtain ⟨h1, h2, h3⟩ := bytes_each hb
  obtain ⟨A, c, rfl, hc, hm, hA⟩ := sl_cells r hz h2
  rcases hA with rfl | ⟨b, off, U, rfl, hcell⟩
  · have : l = [] := List.eq_nil_of_length_eq_zero (by simpa using h1.symm)
    subst this
    cases A with
    | none => rfl
    | some a => simp [Conv.bytesToString, loadCells, loadCellsFrom]; rfl
  · have hlc := run_loadCells (P := P) (w := w) (b := b) (o := off) ((List.range es.length).map U) es.length (by simp) (fun j u hj => by
      rw [List.getElem?_map] at hj
      have hjl : j < es.length := by
        rcases Nat.lt_or_ge j es.length with hlt | hge
        · exact hlt
        · rw [List.getElem?_eq_none (by simpa using hge)] at hj; cases hj
      rw [List.getElem?_range hjl] at hj
      injection hj with hj; subst hj
      obtain ⟨n, b', he, _, _⟩ := h3 j (es[j]) (List.getElem?_eq_getElem hjl)
      have := (hcell j (es[j]) 0 (.int .u8 n) (List.getElem?_eq_getElem hjl) (by rw [he]; rfl)).2.1
      simpa using this)
    simp only [Conv.bytesToString, Sem.run_bind, hlc, Result.andThen_ok]
    rw [← Array.forIn_toList]
    rw [bytes_run (P := P) (w := w) _ (fun n s => rfl) ((List.range es.length).map U) l ByteArray.empty (by simp [h1]) (fun i u b' hu hb' => by
      rw [List.getElem?_map] at hu
      have hil : i < es.length := by rw [h1]; exact (List.getElem?_eq_some_iff.1 hb').1
      rw [List.getElem?_range hil] at hu
      injection hu with hu; subst hu
      obtain ⟨n, b'', he, hl, rfl⟩ := h3 i (es[i]) (List.getElem?_eq_getElem hil)
      rw [hl] at hb'
      injection hb' with hb'; subst hb'
      have hrep := (hcell i (es[i]) 0 (.int .u8 n) (List.getElem?_eq_getElem hil) (by rw [he]; rfl)).2.2
      simp only [Nat.mul_one, Nat.add_zero] at hrep
      generalize hUi : U i = ui at hrep
      cases hrep
      exact ⟨n, rfl, rfl⟩)]
    show Result.ok (Value.string ⟨ByteArray.empty.data ++ l.toArray⟩) w = _
    have e : ByteArray.empty.data = #[] := rfl
    rw [e, Array.empty_append]

/-- a part of a slice -/
theorem sub_sim {v : Value} {es : List (List C)} (r : RepC Z v (.sl es)) {k l u : Nat} (hlu : l ≤ u) (hu : u ≤ es.length) (hk : ∀ e ∈ es, e.length = k) : ∃ A c, v = .slice A es.length c ∧ es.length ≤ c ∧ ∀ mm, u ≤ mm → mm ≤ c → RepC Z (.slice (if mm = l then A else A.map (·.add (l * k))) (u - l) (mm - l)) (.sl ((es.drop l).take (u - l))) := by
  cases r with
  | sl A n c k' b off U _ hl hc hm hk' hA hz hr hN =>
    subst hl
    refine ⟨A, c, rfl, hc, fun mm h1 h2 => ?_⟩
    rcases Nat.eq_or_lt_of_le hlu with he | hlt
    · subst he
      simp only [Nat.sub_self, List.take_zero]
      exact repC_empty Z (by omega) (fun h => by
        have hA0 : A = none := by split at h; (exact h); (cases A with | none => rfl | some a => simp at h)
        have := hN hA0; omega)
    · cases es with
      | nil => simp at hu; omega
      | cons e0 es' =>
        have hkk : k' = k := by rw [← hk e0 (by simp), hk' e0 (by simp)]
        subst hkk
        have := hA (by simp)
        subst this
        rw [if_neg (by omega)]
        simp only [Option.map_some, add_off]
        refine .sl _ (u - l) (mm - l) k' b (off + l * k') (fun o => U (l * k' + o)) _ (by rw [List.length_take, List.length_drop]; omega) (by omega) (by omega) (fun e he => hk' e (List.mem_of_mem_drop (List.mem_of_mem_take he))) (fun _ => rfl) ?_ ?_ (fun h => by cases h)
        · intro i e j x he hx
          rw [List.getElem?_take] at he
          split at he
          · rw [List.getElem?_drop] at he
            have := hz (l + i) e j x he hx
            rw [Nat.add_mul] at this
            rw [show off + l * k' + (i * k' + j) = off + (l * k' + i * k' + j) from by omega, show l * k' + (i * k' + j) = l * k' + i * k' + j from by omega]
            exact this
          · cases he
        · intro i e j x he hx
          rw [List.getElem?_take] at he
          split at he
          · rw [List.getElem?_drop] at he
            have := hr (l + i) e j x he hx
            rw [Nat.add_mul] at this
            rw [show l * k' + (i * k' + j) = l * k' + i * k' + j from by omega]
            exact this
          · cases he

theorem sb_run {x : V} {v : Value} {d mx n cap : Nat} {code : BoundsCode} (hb : bnd (some x) d mx = some n) (hr : Rep Z Y m v x) (hc : mx ≤ cap) : (Instr.sliceBound v cap code).run P w = .ok n w ∧ n ≤ mx := by
  unfold bnd at hb
  split at hb
  · cases ‹some x = none›
  · rename_i k i e
    injection e with e; subst e
    have := rep_int hr
    subst this
    split at hb
    · rename_i hi
      injection hb with hb; subst hb
      have : 0 ≤ i ∧ i ≤ (cap : Int) := by omega
      exact ⟨by simp [Instr.sliceBound, asIntOf, this], by omega⟩
    · cases hb
  · cases hb

theorem slice_run {t e : TypeId} {es : List (List C)} {k mm u l : Nat} {v : Value} {r : Operand → V} {ρ : Operand → Value} {lo hi mx : Option Operand} (hρ : ∀ x, Rep Z Y m (ρ x) (r x)) (hu : P.underlying t = some (.slice e)) (hs : szO P e = some k)
    (h1 : bnd (mx.map r) es.length es.length = some mm) (h2 : bnd (hi.map r) es.length mm = some u) (h3 : bnd (lo.map r) 0 u = some l) (hmh : ¬ (mx.isSome = true ∧ hi.isNone = true)) {A : Option Addr} {c : Nat} (hv : v = .slice A es.length c) (hc : es.length ≤ c) :
    l ≤ u ∧ u ≤ es.length ∧ ∃ cm, u ≤ cm ∧ cm ≤ c ∧ (mx.isSome = true → cm = mm) ∧ (Instr.sliceAt t v (lo.map ρ) (hi.map ρ) (mx.map ρ)).run P w = .ok (.slice (if cm = l then A else A.map (·.add (l * k))) (u - l) (cm - l)) w := by
  subst hv
  have hml : mm ≤ es.length := by
    cases mx with
    | none => injection h1 with h1; omega
    | some x => exact (sb_run (P := P) (w := w) (cap := es.length) (code := .sliceB) h1 (hρ x) (Nat.le_refl _)).2
  have hum : u ≤ es.length ∧ (hi.isSome = true → u ≤ mm) := by
    cases hi with
    | none => injection h2 with h2; exact ⟨by omega, by simp⟩
    | some x => have := (sb_run (P := P) (w := w) (cap := mm) (code := .sliceB) h2 (hρ x) (Nat.le_refl _)).2; exact ⟨by omega, fun _ => this⟩
  have hlu : l ≤ u := by
    cases lo with
    | none => injection h3 with h3; omega
    | some x => exact (sb_run (P := P) (w := w) (cap := u) (code := .sliceB) h3 (hρ x) (Nat.le_refl _)).2
  refine ⟨hlu, hum.1, ?_⟩
  have fin : ∀ cm, ((Instr.sliceBounds true es.length c (lo.map ρ) (hi.map ρ) (mx.map ρ)).run P w = .ok (l, u, cm) w) → (Instr.sliceAt t (.slice A es.length c) (lo.map ρ) (hi.map ρ) (mx.map ρ)).run P w = .ok (.slice (if cm = l then A else A.map (·.add (l * k))) (u - l) (cm - l)) w := by
    intro cm hb
    simp only [Instr.sliceAt, Instr.slice, Sem.run_bind, run_und hu, Result.andThen_ok, hb, run_sz hs, Sem.run_pure]
  have hlo : ∀ code, (match lo.map ρ with | some v => Instr.sliceBound v u code | none => pure 0).run P w = .ok l w := by
    intro code
    cases lo with
    | none => injection h3 with h3; subst h3; rfl
    | some x => exact (sb_run h3 (hρ x) (Nat.le_refl _)).1
  cases mx with
  | none =>
    refine ⟨c, by omega, Nat.le_refl _, by simp, fin c ?_⟩
    cases hi with
    | none =>
      injection h2 with h2
      subst h2
      have := hlo .sliceB
      cases lo <;> simp [Instr.sliceBounds] at this ⊢ <;> simp [this]
    | some y =>
      have hy := fun code => (sb_run (P := P) (w := w) (cap := c) (code := code) h2 (hρ y) (by omega)).1
      have := hlo .sliceB
      cases lo <;> simp [Instr.sliceBounds, hy] at this ⊢ <;> simp [this]
  | some x =>
    have hx := fun code => (sb_run (P := P) (w := w) (cap := c) (code := code) h1 (hρ x) hc).1
    cases hi with
    | none => simp at hmh
    | some y =>
      have hy := fun code => (sb_run (P := P) (w := w) (cap := mm) (code := code) h2 (hρ y) (Nat.le_refl _)).1
      refine ⟨mm, hum.2 rfl, by omega, fun _ => rfl, fin mm ?_⟩
      have := hlo .slice3C
      cases lo <;> simp [Instr.sliceBounds, hx, hy] at this ⊢ <;> simp [this]

end
end Go.Proofs.Ytokahibbkdbndaa
