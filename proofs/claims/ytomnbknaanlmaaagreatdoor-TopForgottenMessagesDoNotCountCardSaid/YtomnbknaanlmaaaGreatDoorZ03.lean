/- append. -/
import Derived.Test.YtomnbknaanlmaaaGreatDoorZ02
import Derived.Laws.Append
import Derived.Deep.DeepAppendWide
import Derived.IntWalk
namespace Go.Proofs.YtomnbknaanlmaaaGreatDoor
open Go.RowKit
section
variable {P : Program} {Z Y : ZMap} {m : Nat → Option Value} {w0 : WB} {w w' : World} {h hv : Nat → Option B} {sh : Nat → Bool}
/-- the first cells of a slice, in this world and in one that has only drawn -/
theorem run_first {k n : Nat} {A : Option Addr} {c : Nat} (l : List Value) (hl : l.length = n * k) (hA : (l = [] ∧ (A = none ∨ n * k = 0)) ∨ ∃ b off, A = some ⟨b, off, none⟩ ∧ ∀ (j : Nat) u, l[j]? = some u → w.cell? ⟨b, off + j, none⟩ = some u) :
    (Builtin.firstCells k n (.slice A n c)).run P w = .ok l.toArray w := by
  rcases hA with ⟨rfl, hA⟩ | ⟨b, off, rfl, hc⟩
  · rcases hA with rfl | h0
    · rfl
    · cases A with
      | none => rfl
      | some a => simp [Builtin.firstCells, h0, loadCells, loadCellsFrom]
  · exact run_loadCells l (n * k) hl hc
/-- the cells of elements, one after another -/
def flatU (U : Nat → Value) (n k : Nat) : List Value := (List.range (n * k)).map U
theorem flatU_len (U : Nat → Value) (n k : Nat) : (flatU U n k).length = n * k := by simp [flatU]
theorem flatU_get {U : Nat → Value} {n k j : Nat} (hj : j < n * k) : (flatU U n k)[j]? = some (U j) := by simp [flatU, List.getElem?_range hj]
theorem flatU_some {U : Nat → Value} {n k j : Nat} {u : Value} (h : (flatU U n k)[j]? = some u) : j < n * k ∧ u = U j := by
  have hj : j < n * k := by have := (List.getElem?_eq_some_iff.1 h).1; simpa [flatU_len] using this
  rw [flatU_get hj] at h
  injection h with h
  exact ⟨hj, h.symm⟩
theorem divmod_of {es : List (List C)} {k j : Nat} (hk : 0 < k) (he : ∀ e ∈ es, e.length = k) (hj : j < es.length * k) : ∃ i q e x, es[i]? = some e ∧ e[q]? = some x ∧ i * k + q = j := by
  have hi : j / k < es.length := (Nat.div_lt_iff_lt_mul hk).2 hj
  have hq : j % k < k := Nat.mod_lt _ hk
  refine ⟨j / k, j % k, es[j / k], (es[j / k])[j % k]'(by rw [he _ (List.getElem_mem _)]; exact hq), List.getElem?_eq_getElem hi, List.getElem?_eq_getElem _, ?_⟩
  rw [Nat.mul_comm]; exact Nat.div_add_mod j k
theorem elem_at {es : List (List C)} {k i j : Nat} {e : List C} {x : C} (he : ∀ e ∈ es, e.length = k) (h1 : es[i]? = some e) (h2 : e[j]? = some x) : i * k + j < es.length * k ∧ j < k := by
  have hi := (List.getElem?_eq_some_iff.1 h1).1
  have hj := (List.getElem?_eq_some_iff.1 h2).1
  rw [he e (List.mem_of_getElem? h1)] at hj
  have : (i + 1) * k ≤ es.length * k := Nat.mul_le_mul_right k hi
  rw [Nat.add_mul] at this
  omega
/-- what may be appended: a slice's cells, a text's bytes -/
def ApdT (P : Program) (t' : TypeId) (vx : Value) (mm : Nat) : Prop := (∃ e' B d, P.underlying t' = some (.slice e') ∧ vx = .slice B mm d) ∨ ∃ s : ByteArray, P.underlying t' = some .string ∧ vx = .string s ∧ s.size = mm
theorem run_apd_room {t t' e ty : TypeId} {vx : Value} {i : TypeInfo} (hu : P.underlying t = some (.slice e)) {mm : Nat} (hx : ApdT P t' vx mm) (hi : P.info? e = some i) {A : Option Addr} {n c : Nat} (hroom : n + mm ≤ c) {news : List Value} (hn : (Builtin.firstCells i.size mm vx).run P w = .ok news.toArray w) {w1 : World}
    (hst : (match A with | some a => storeCells (a.add (n * i.size)) news | none => pure ()).run P w = .ok () w1) : (Builtin.append_ #[t, t'] ty #[.slice A n c, vx]).run P w = .ok (.slice A (n + mm) c) w1 := by
  rcases hx with ⟨e', B, d, hu', rfl⟩ | ⟨s, hu', rfl, rfl⟩
  all_goals
     simp only [Builtin.append_, List.getElem?_toArray, List.getElem?_cons_zero, List.getElem?_cons_succ, Sem.run_bind, run_und hu, Result.andThen_ok, run_sz (show szO P e = some i.size by simp [szO, hi]), run_und hu', Sem.run_pure, Bool.false_eq_true, if_false, Builtin.lenOf, Bool.not_false, if_true, hroom, hn]
     cases A with
     | none =>
       simp only [Sem.run_pure] at hst ⊢
       injection hst with _ hst
       subst hst
       rfl
     | some a =>
       simp only [Sem.run_bind] at hst ⊢
       rw [hst]
       rfl
theorem run_apd_grow {t t' e ty : TypeId} {vx : Value} {i : TypeInfo} {z : Value} (hu : P.underlying t = some (.slice e)) {mm : Nat} (hx : ApdT P t' vx mm) (hi : P.info? e = some i) (hz : i.zero = some z) {A : Option Addr} {n c : Nat} (hroom : c < n + mm) (hby : ((n + mm) + (n + mm) / 4 + 192) * i.bytes ≤ 281474976710656) (hmx : n + mm ≤ 9223372036854775807) {olds news : List Value}
    (hn : (Builtin.firstCells i.size mm vx).run P w.drew = .ok news.toArray w.drew) (hold : (Builtin.firstCells i.size n (.slice A n c)).run P w.drew = .ok olds.toArray w.drew) :
    ∃ cap, n + mm ≤ cap ∧ cap ≤ maxLen ∧ (Builtin.append_ #[t, t'] ty #[.slice A n c, vx]).run P w = .ok (.slice (some ⟨w.heap.size, 0, none⟩) (n + mm) cap) (w.drew.alloc (.cells (olds.toArray ++ news.toArray ++ Builtin.zeroCells z.cells (cap - (n + mm))) e)) := by
  generalize hcap : (Question.appendCap (n + mm) c e).cut (w.tape w.drawn (.appendCap (n + mm) c e)) = cap
  have hge : n + mm ≤ cap := by rw [← hcap]; simp [Question.cut]
  have hle : cap ≤ maxLen := by
    have : w.tape w.drawn (.appendCap (n + mm) c e) % (2 ^ 63 - (n + mm)) < 2 ^ 63 - (n + mm) := Nat.mod_lt _ (by omega)
    rw [← hcap]; simp only [Question.cut]; unfold maxLen; omega
  refine ⟨cap, hge, hle, ?_⟩
  have hch : (choose (.appendCap (n + mm) c e)).run P w = .ok cap w.drew := by rw [← hcap]; rfl
  have hg := growslice_fits_wide (old := c) (bytes := i.bytes) hroom hby
  have hnr : ¬ (n + mm ≤ c) := by omega
  have hbig : ¬ (((n + mm : Nat) : Int) > IntKind.i64.max ∧ ((false = true) ∨ i.bytes = 0)) := by
    intro hc; have := hc.1; have e : IntKind.i64.max = 9223372036854775807 := by decide
    rw [e] at this; omega
  have hpow : ¬ (Builtin.nextslicecap (n + mm) c * i.bytes > 2 ^ 48) := by omega
  have hask : ∀ b, (askRoom b).run P w.drew = .ok () w.drew := fun b => by unfold askRoom; split <;> rfl
  rcases hx with ⟨e', B, d, hu', rfl⟩ | ⟨s, hu', rfl, rfl⟩
  all_goals
     simp only [Builtin.append_, List.getElem?_toArray, List.getElem?_cons_zero, List.getElem?_cons_succ, Sem.run_bind, run_und hu, Result.andThen_ok, run_sz (show szO P e = some i.size by simp [szO, hi]), run_und hu', Sem.run_pure, Bool.false_eq_true, if_false, Builtin.lenOf, hnr, run_inf hi]
     simp only [Bool.false_eq_true] at hbig
     rw [if_neg hbig]
     simp only [Sem.run_bind, run_inf hi, Result.andThen_ok]
     rw [if_neg hpow]
     simp only [Sem.run_bind, hch, Result.andThen_ok, run_inf hi, hask, hold, hn, Bool.not_false, if_true, run_zero hi hz, run_newRow, Sem.run_pure]
     rfl
/-- a row in a new number -/
theorem Rel.renew (R : Rel w0 Z Y m h sh w) {base : Nat} {oid : Option Nat} (hb : m base = none) (hbh : h base = none) {sh' : Nat → Bool} (hsh : ∀ j, j ≠ base → sh' j = sh j) {v : Value} {es : List (List C)} {w1 : World} (hbel : Bel w w1)
    (hrow : (v = .slice none 0 0 ∧ es = []) ∨ ∃ g n c k, v = .slice (some ⟨g, 0, none⟩) n c ∧ RowAt w0.own Z (sh' base) w1 g n c k es ∧ (w.heap.size ≤ g ∨ ∃ id, oid = some id ∧ h id ≠ none ∧ blkOf m id = some g)) :
    Rel w0 Z Y (upd m base (some v)) (upd (dropO h oid) base (some (.row es))) sh' w1 := by
  have R1 := (R.later hbel).less (h' := dropO h oid) (fun id b hi => by
    cases oid with
    | none => exact hi
    | some q => simp only [dropO, upd] at hi; split at hi; (cases hi); exact hi)
  have hmle : MLe m (upd m base (some v)) := MLe.up hb
  have hold : ∀ j, j ≠ base → blkOf (upd m base (some v)) j = blkOf m j := fun j hj => by simp [blkOf, upd, hj]
  have hdrop : ∀ j b, dropO h oid j = some b → h j = some b ∧ oid ≠ some j := fun j b hj => by
    cases oid with
    | none => exact ⟨hj, by simp⟩
    | some q => simp only [dropO, upd] at hj; split at hj; (cases hj); (rename_i hne; exact ⟨hj, fun e => hne (by injection e with e; exact e.symm)⟩)
  have hnew : ∀ g, blkOf (upd m base (some v)) base = some g → ∀ j, j ≠ base → dropO h oid j ≠ none → blkOf m j = some g → False := by
    intro g hg j hj hn he
    obtain ⟨b, hb'⟩ : ∃ b, dropO h oid j = some b := by cases hd : dropO h oid j with | none => exact absurd hd hn | some b => exact ⟨b, rfl⟩
    obtain ⟨h1, h2⟩ := hdrop j b hb'
    rcases hrow with ⟨rfl, _⟩ | ⟨g', n, c, k, rfl, _, hor⟩
    · simp [blkOf, upd] at hg
    · simp only [blkOf, upd, if_true, Option.some.injEq] at hg
      subst hg
      rcases hor with hge | ⟨id, ho, hidn, hidg⟩
      · have := (R.blk_lt (by rw [h1]; simp) he).1
        omega
      · have := R.inj j id g' (by rw [h1]; simp) hidn he hidg
        subst this
        exact h2 ho
  refine ⟨R1.bel, R1.gw, R1.zok, R1.yok, fun j cs hj => ?_, fun j es' hj => ?_, fun j es' i' v' hj => ?_, fun j l hj => ?_, fun j j' g h1 h2 e1 e2 => ?_⟩
  · unfold upd at hj
    split at hj
    · cases hj
    · obtain ⟨g, hm, hat⟩ := R1.box j cs hj
      obtain ⟨t, vs, hvs, hr⟩ := hat.ex
      exact ⟨g, hmle _ _ hm, ⟨hat.base, ⟨t, vs, hvs, hr.mono (ZLe.refl _) hmle⟩, hat.apart⟩⟩
  · unfold upd at hj
    split at hj
    · rename_i e
      subst e
      injection hj with hj; injection hj with hj; subst hj
      rcases hrow with ⟨rfl, h0⟩ | ⟨g, n, c, k, rfl, hat, _⟩
      · exact .inl ⟨by simp [upd], h0⟩
      · exact .inr ⟨g, n, c, k, by simp [upd], hat⟩
    · rename_i hne
      rw [hsh j hne]
      rcases R1.row j es' hj with ⟨h0, h1⟩ | ⟨g, n, c, k, hm, hat⟩
      · exact .inl ⟨hmle _ _ h0, h1⟩
      · exact .inr ⟨g, n, c, k, hmle _ _ hm, hat⟩
  · unfold upd at hj
    split at hj
    · cases hj
    · obtain ⟨g, n, c, hm, hat⟩ := R1.tab j es' i' v' hj
      exact ⟨g, n, c, hmle _ _ hm, hat.up (ZLe.refl _) hmle (fun _ h => h) hat.apart⟩
  · unfold upd at hj
    split at hj
    · cases hj
    · obtain ⟨g, hm, hat⟩ := R1.mp j l hj
      exact ⟨g, hmle _ _ hm, hat⟩
  · have hn : ∀ q, q ≠ base → upd (dropO h oid) base (some (.row es)) q ≠ none → dropO h oid q ≠ none := fun q hq hn => by simpa [upd, hq] using hn
    by_cases c1 : j = base
    · by_cases c2 : j' = base
      · rw [c1, c2]
      · exact (hnew g (c1 ▸ e1) j' c2 (hn _ c2 h2) ((hold j' c2) ▸ e2)).elim
    · by_cases c2 : j' = base
      · exact (hnew g (c2 ▸ e2) j c1 (hn _ c1 h1) ((hold j c1) ▸ e1)).elim
      · exact R1.inj j j' g (hn _ c1 h1) (hn _ c2 h2) ((hold j c1) ▸ e1) ((hold j' c2) ▸ e2)
theorem laid_append {k : Nat} {es xs : List (List C)} {U W : Nat → Value} (hk : ∀ e ∈ es, e.length = k) (hx : ∀ e ∈ xs, e.length = k) {cur : Array Value}
    (h1 : ∀ j, j < es.length * k → cur[j]? = some (U j)) (h2 : ∀ j, j < xs.length * k → cur[es.length * k + j]? = some (W j))
    (r1 : ∀ (i : Nat) (e : List C) (j : Nat) (x : C), es[i]? = some e → e[j]? = some x → RepC Z (U (i * k + j)) x) (r2 : ∀ (i : Nat) (e : List C) (j : Nat) (x : C), xs[i]? = some e → e[j]? = some x → RepC Z (W (i * k + j)) x) :
    ∀ (i : Nat) (e : List C) (j : Nat) (x : C), (es ++ xs)[i]? = some e → e[j]? = some x → ∃ u, cur[i * k + j]? = some u ∧ RepC Z u x := by
  intro i e j x hi hj
  rw [List.getElem?_append] at hi
  split at hi
  · obtain ⟨hlt, _⟩ := elem_at hk hi hj
    exact ⟨_, h1 _ hlt, r1 i e j x hi hj⟩
  · rename_i hge
    obtain ⟨hlt, _⟩ := elem_at hx hi hj
    have he : i * k + j = es.length * k + ((i - es.length) * k + j) := by
      have : i * k = es.length * k + (i - es.length) * k := by rw [← Nat.add_mul]; congr 1; omega
      omega
    rw [he]
    exact ⟨_, h2 _ hlt, r2 _ e j x hi hj⟩
theorem zeroCells_size (z : Array Value) (n : Nat) : (Builtin.zeroCells z n).size = n * z.size := by simp [Builtin.zeroCells]
/-- where the appended cells come from -/
structure Src (P : Program) (Z1 : ZMap) (w : World) (t' : TypeId) (k : Nat) (xs : List (List C)) (vx : Value) : Prop where
  at_ : ApdT P t' vx xs.length
  ex : ∃ (W : Nat → Value) (news : List Value), news.length = xs.length * k ∧ (∀ j, j < xs.length * k → news[j]? = some (W j)) ∧ (∀ w', (∀ b o u, w.cell? ⟨b, o, none⟩ = some u → w'.cell? ⟨b, o, none⟩ = some u) → (Builtin.firstCells k xs.length vx).run P w' = .ok news.toArray w') ∧
      (∀ (i' : Nat) (e : List C) (j : Nat) (x : C), xs[i']? = some e → e[j]? = some x → RepC Z1 (W (i' * k + j)) x) ∧ (∀ u ∈ news, u.oneCell' = true)
theorem apdV_sim (R : Rel w0 Z Y m h sh w) {t t' e ty : TypeId} (hu : P.underlying t = some (.slice e)) {base : Nat} (hmb : m base = none) (hhb : h base = none) {s : V} {vs vx : Value} {yx : Option (C × List Nat)} {y : V × (Nat → Option B) × (Nat → Bool)} (hap : apdV P h sh base e s yx = some y) (rs : Rep Z Y m vs s)
    (hsrc : ∀ (i : TypeInfo) f xs, P.info? e = some i → 0 < i.size → yx = some f → f.1 = .sl xs → (∀ el ∈ xs, el.length = i.size) → ∃ Z1, ZUp w0 Z Z1 ∧ Rel w0 Z1 Y m h (flag sh f.2) w ∧ Src P Z1 w t' i.size xs vx) :
    ∃ Z' w1 cv mv, ZUp w0 Z Z' ∧ Rel w0 Z' Y (upd m base (some mv)) y.2.1 y.2.2 w1 ∧ Rep Z' Y (upd m base (some mv)) cv y.1 ∧ (Builtin.append_ #[t, t'] ty #[vs, vx]).run P w = .ok cv w1 := by
  unfold apdV at hap
  cases hi : P.info? e with
  | none => rw [hi] at hap; cases hap
  | some i =>
  rw [hi] at hap
  simp only [Option.bind_some] at hap
  split at hap
  case isFalse => cases hap
  rename_i hz
  obtain ⟨hk, hz⟩ := hz
  obtain ⟨z, hz1, hz2⟩ : ∃ z, i.zero = some z ∧ z.cells.size = i.size := by
    cases hzz : i.zero with
    | none => rw [hzz] at hz; cases hz
    | some z => rw [hzz] at hz; injection hz with hz; exact ⟨z, rfl, hz⟩
  cases hf : yx with
  | none => rw [hf] at hap; cases hap
  | some f =>
  rw [hf] at hap
  simp only [Option.bind_some] at hap
  split at hap
  case h_2 => cases hap
  rename_i xs hxs
  cases hg : tgtV h s xs.isEmpty with
  | none => rw [hg] at hap; cases hap
  | some tg =>
  rw [hg] at hap
  simp only [Option.bind_some] at hap
  split at hap
  case isFalse => cases hap
  rename_i hcond
  obtain ⟨hall, hby, hmx, hnid⟩ := hcond
  simp only [Bool.and_eq_true] at hall
  injection hap with hap; subst hap
  have hxk : ∀ el ∈ xs, el.length = i.size := fun el he => by simpa using List.all_eq_true.1 hall.1 el he
  have hek : ∀ el ∈ tg.1, el.length = i.size := fun el he => by simpa using List.all_eq_true.1 hall.2 el he
  obtain ⟨Z1, u1, R1, hs1⟩ := hsrc i f xs hi hk hf hxs hxk
  have hat' := hs1.at_
  obtain ⟨W, news, hnl, hnews, hnw, hnr, hn1⟩ := hs1.ex
  have hdrew : ∀ b o u, w.cell? ⟨b, o, none⟩ = some u → w.drew.cell? ⟨b, o, none⟩ = some u := fun _ _ _ h => h
  have hshf : ∀ j, j ≠ base → upd (fun j => if j ∈ f.2 then true else sh j) base ((tg.2.2.map sh).getD false) j = flag sh f.2 j := fun j hj => by simp [upd, hj, flag]
  -- growing: a new block
  have grow : ∀ (A : Option Addr) (c : Nat) (U : Nat → Value) (olds : List Value), vs = .slice A tg.2.1 c → tg.1.length = tg.2.1 → c < tg.2.1 + xs.length → olds.length = tg.2.1 * i.size → (∀ j, j < tg.2.1 * i.size → olds[j]? = some (U j)) → (Builtin.firstCells i.size tg.2.1 (.slice A tg.2.1 c)).run P w.drew = .ok olds.toArray w.drew →
      (∀ (i' : Nat) (e : List C) (j : Nat) (x : C), tg.1[i']? = some e → e[j]? = some x → RepC Z1 (U (i' * i.size + j)) x) →
      ∃ Z' w1 cv mv, ZUp w0 Z Z' ∧ Rel w0 Z' Y (upd m base (some mv)) (upd (dropO h tg.2.2) base (some (.row (tg.1 ++ xs)))) (upd (fun j => if j ∈ f.2 then true else sh j) base ((tg.2.2.map sh).getD false)) w1 ∧ Rep Z' Y (upd m base (some mv)) cv (.row base (tg.2.1 + xs.length)) ∧ (Builtin.append_ #[t, t'] ty #[vs, vx]).run P w = .ok cv w1 := by
    intro A c U olds hvs hln hlt hol hog hold hrep
    subst hvs
    obtain ⟨cap, hc1, hc2, hrun⟩ := run_apd_grow (ty := ty) hu hat' hi hz1 (A := A) (n := tg.2.1) (c := c) hlt hby hmx (hnw w.drew hdrew) hold
    have hsz : (olds.toArray ++ news.toArray ++ Builtin.zeroCells z.cells (cap - (tg.2.1 + xs.length))).size = cap * i.size := by
      simp only [Array.size_append, List.size_toArray, hol, hnl, zeroCells_size, hz2, ← Nat.add_mul]
      congr 1
      omega
    refine ⟨Z1, _, _, .slice (some ⟨w.heap.size, 0, none⟩) (tg.2.1 + xs.length) cap, u1, ?_, .row base _ _ cap (by simp [upd]) (fun _ => ⟨_, rfl⟩), hrun⟩
    refine R1.renew hmb hhb hshf ((Bel.refl w).drew.alloc _) (.inr ⟨w.heap.size, tg.2.1 + xs.length, cap, i.size, rfl, ⟨.inl R.bel.size, ⟨e, (0, 0), _, heap_alloc_new w.drew _, hsz, by simp, ?_⟩, by simp [hln], hc1, hc2, hk, by omega, ?_, ?_⟩, .inl (Nat.le_refl _)⟩)
    · refine laid_append (U := U) (W := W) hek hxk ?_ ?_ hrep hnr
      · intro j hj
        rw [hln] at hj
        rw [Array.append_assoc, Array.getElem?_append_left (by simp [hol]; exact hj)]
        simpa using hog j hj
      · intro j hj
        rw [Array.append_assoc, Array.getElem?_append_right (by simp [hol, hln])]
        simp only [List.size_toArray, hol, hln, Nat.add_sub_cancel_left]
        rw [Array.getElem?_append_left (by simp [hnl]; exact hj)]
        simpa using hnews j hj
    · intro el he
      rcases List.mem_append.1 he with he | he
      · exact hek el he
      · exact hxk el he
    · intro o ho
      cases hzz : Z1 w.heap.size o with
      | none => exact absurd hzz ho
      | some u => have := R1.z_lt hzz; omega
  -- an empty slice without room, wherever it points
  have empty : ∀ A : Option Addr, vs = .slice A 0 0 → tg.1 = [] → tg.2.1 = 0 → ∃ Z' w1 cv mv, ZUp w0 Z Z' ∧ Rel w0 Z' Y (upd m base (some mv)) (upd (dropO h tg.2.2) base (some (.row (tg.1 ++ xs)))) (upd (fun j => if j ∈ f.2 then true else sh j) base ((tg.2.2.map sh).getD false)) w1 ∧ Rep Z' Y (upd m base (some mv)) cv (.row base (tg.2.1 + xs.length)) ∧ (Builtin.append_ #[t, t'] ty #[vs, vx]).run P w = .ok cv w1 := by
    intro A hvs h1 h2
    by_cases hx0 : xs.length = 0
    · have hxe : xs = [] := List.eq_nil_of_length_eq_zero hx0
      have hnn : news = [] := List.eq_nil_of_length_eq_zero (by simpa [hx0] using hnl)
      refine ⟨Z1, w, .slice A 0 0, .slice none 0 0, u1, ?_, ?_, ?_⟩
      · rw [h1, hxe]
        exact R1.renew hmb hhb hshf (Bel.refl w) (.inl ⟨rfl, rfl⟩)
      · rw [h2, hx0]
        exact .row0 base A (by simp [upd])
      · rw [hvs]
        rw [hx0] at hat'
        have hn0 := hnw w (fun _ _ _ h => h)
        rw [hx0] at hn0
        exact run_apd_room (P := P) (w := w) (ty := ty) hu hat' hi (A := A) (n := 0) (c := 0) (mm := 0) (by omega) hn0 (w1 := w) (by rw [hnn]; cases A <;> rfl)
    · refine grow A 0 (fun _ => .nilFunc) [] (by rw [hvs, h2]) (by rw [h1, h2]; rfl) (by omega) (by rw [h2]; simp) (fun j hj => by rw [h2] at hj; simp at hj) ?_ (fun i' e j x he => by rw [h1] at he; simp at he)
      rw [h2]
      exact run_first [] (by simp) (.inl ⟨rfl, .inr (by simp)⟩)
  unfold tgtV at hg
  split at hg
  · rename_i id n
    split at hg
    · rename_i es hes
      injection hg with hg; subst hg
      simp only at hek hmx hby hnid hshf grow ⊢
      have hnid : id ∉ f.2 := by simpa using hnid
      cases rs with
      | row0 _ A hm =>
        rcases R1.row id es hes with ⟨_, h0⟩ | ⟨g, n', c', k, hm', hat⟩
        · exact empty A rfl h0 rfl
        · rw [hm] at hm'; cases hm'
      | row _ _ A c hm hA =>
      rcases R1.row id es hes with ⟨hm', h0⟩ | ⟨g, n', c', k, hm', hat⟩
      · rw [hm] at hm'
        injection hm' with hm'; injection hm' with a1 a2 a3
        subst a1 a2 a3 h0
        by_cases hx0 : xs.length = 0
        · have : xs = [] := List.eq_nil_of_length_eq_zero hx0
          subst this
          refine ⟨Z1, w, .slice none 0 0, .slice none 0 0, u1, ?_, .row base 0 _ 0 (by simp [upd]) (by simp), ?_⟩
          · exact R1.renew hmb hhb hshf (Bel.refl w) (.inl ⟨rfl, rfl⟩)
          · exact run_apd_room hu hat' hi (by simp) (hnw w (fun _ _ _ h => h)) rfl
        · exact grow none 0 (fun _ => .nilFunc) [] rfl rfl (by omega) (by simp) (by simp) (run_first [] (by simp) (.inl ⟨rfl, .inl rfl⟩)) (by simp)
      · rw [hm] at hm'
        injection hm' with hm'; injection hm' with a1 a2 a3
        subst a1 a2 a3
        obtain ⟨t1, fz, cur, hv', hcs, hfz, hcell⟩ := hat.ex
        have hkk : n ≠ 0 → k = i.size := fun hn0 => by
          cases es with
          | nil => have := hat.len; simp at this; omega
          | cons e0 es => rw [← hat.each e0 (by simp), hek e0 (by simp)]
        by_cases hroom : n + xs.length ≤ c
        · by_cases hn0 : n = 0
          · have hc0 := hat.zero hn0
            have hx0 : xs = [] := List.eq_nil_of_length_eq_zero (by omega)
            subst hx0
            have hes0 : es = [] := List.eq_nil_of_length_eq_zero (by rw [hat.len]; exact hn0)
            have hnn : news = [] := List.eq_nil_of_length_eq_zero (by simpa using hnl)
            refine ⟨Z1, w, .slice (some ⟨g, 0, none⟩) n c, .slice (some ⟨g, 0, none⟩) n c, u1, ?_, by simpa using Rep.row (Z := Z1) (Y := Y) (m := upd m base (some (.slice (some ⟨g, 0, none⟩) n c))) base n _ c (by simp [upd]) (fun _ => ⟨_, rfl⟩), ?_⟩
            · refine R1.renew hmb hhb hshf (Bel.refl w) (.inr ⟨g, n, c, k, rfl, ?_, .inr ⟨id, rfl, by rw [hes]; simp, by simp [blkOf, hm]⟩⟩)
              rw [List.append_nil]
              exact ⟨hat.base, hat.ex, hat.len, hat.le, hat.max, hat.pos, hat.zero, hat.each, fun o ho => by have := (hat.apart o ho).2; rw [hn0] at this; omega⟩
            · have := run_apd_room (P := P) (w := w) (ty := ty) hu hat' hi (A := some ⟨g, 0, none⟩) (n := n) (c := c) (mm := 0) (by omega) (hnw w (fun _ _ _ h => h)) (w1 := w) (by rw [hnn]; rfl)
              simpa using this
          · have hki := hkk hn0
            subst hki
            obtain ⟨w1, s1, s2, s3⟩ := run_storeCells (P := P) (g := g) (o := n * i.size) news 0 w cur hv' hn1 (by rw [hnl, hcs]; have := Nat.mul_le_mul_right i.size hroom; rw [Nat.add_mul] at this; omega) hfz.1
            obtain ⟨f1, f2⟩ := fold_get (n * i.size) news 0 cur
            refine ⟨Z1, w1, .slice (some ⟨g, 0, none⟩) (n + xs.length) c, .slice (some ⟨g, 0, none⟩) (n + xs.length) c, u1, ?_, .row base _ _ c (by simp [upd]) (fun _ => ⟨_, rfl⟩), ?_⟩
            · have hW := R1.write (id := id) (base := base) (g := g) (b' := .row (es ++ xs)) (v := .slice (some ⟨g, 0, none⟩) (n + xs.length) c) (sh' := upd (fun j => if j ∈ f.2 then true else sh j) base (sh id)) hes (by simp [blkOf, hm]) s2 (.inr ⟨hmb, hhb⟩) (fun j hj _ _ => by simp [upd, hj, flag]) ?_ (fun e => by subst e; rw [hm] at hmb; cases hmb) (.inr (.inl ⟨_, n + xs.length, c, i.size, rfl, rfl, ⟨hat.base, ⟨t1, fz, _, s3, by rw [f1]; exact hcs, by rw [f1]; exact hfz, ?_⟩, by simp [hat.len], hroom, hat.max, hat.pos, by omega, ?_, ?_⟩⟩))
              · exact hW
              · intro o u hzz
                have hlt := (hat.apart o (by rw [hzz]; simp)).2
                have hcell' := R1.zok g o u hzz
                simp only [World.cell?, hv'] at hcell'
                simp only [World.cell?, s3]
                have ho : o < cur.size := by rcases Nat.lt_or_ge o cur.size with h | h; exact h; (simp [Array.getElem?_eq_none h] at hcell')
                have := f2 o ho
                rw [if_neg (by omega)] at this
                simp only [Option.isSome_none, Bool.false_eq_true, if_false] at hcell' ⊢
                rw [this]; exact hcell'
              · refine laid_append (U := fun j => (cur[j]?).getD .nilFunc) (W := W) hek hxk ?_ ?_ ?_ hnr
                · intro j hj
                  rw [hat.len] at hj
                  have hjc : j < cur.size := by rw [hcs]; exact Nat.lt_of_lt_of_le hj (Nat.mul_le_mul_right _ hat.le)
                  rw [f2 j hjc, if_neg (by omega)]
                  simp [Array.getElem?_eq_getElem hjc]
                · intro j hj
                  rw [hat.len]
                  have hjc : n * i.size + j < cur.size := by rw [hcs]; have := Nat.mul_le_mul_right i.size hroom; rw [Nat.add_mul] at this; omega
                  rw [f2 _ hjc, if_pos (by rw [hnl]; omega), show n * i.size + j - (n * i.size + 0) = j from by omega]
                  exact hnews j hj
                · intro i' e j x he hx
                  obtain ⟨u, hu, hr⟩ := hcell i' e j x he hx
                  simp only [hu, Option.getD_some]
                  exact hr
              · intro el he
                rcases List.mem_append.1 he with he | he
                · exact hek el he
                · exact hxk el he
              · intro o ho
                have := hat.apart o ho
                refine ⟨?_, ?_⟩
                · have h1 := this.1
                  simp only [flag, hnid, if_false] at h1
                  simp [upd, h1]
                · have h2 := this.2
                  rw [Nat.add_mul]; omega
            · exact run_apd_room (P := P) (w := w) (ty := ty) hu hat' hi (A := some ⟨g, 0, none⟩) (n := n) (c := c) hroom (hnw w (fun _ _ _ h => h)) (w1 := w1) (by simpa [add_off] using s1)
        · refine grow (some ⟨g, 0, none⟩) c (fun j => (cur[j]?).getD .nilFunc) (flatU (fun j => (cur[j]?).getD .nilFunc) n i.size) rfl hat.len (by omega) (flatU_len _ _ _) (fun j hj => flatU_get hj) (run_first _ (flatU_len _ _ _) ?_) ?_
          · by_cases hn0 : n = 0
            · subst hn0
              exact .inl ⟨List.eq_nil_of_length_eq_zero (by simp [flatU_len]), .inr (by simp)⟩
            · have hki := hkk hn0
              subst hki
              refine .inr ⟨g, 0, rfl, fun j u hj => ?_⟩
              obtain ⟨hj', rfl⟩ := flatU_some hj
              have hjc : j < cur.size := by rw [hcs]; exact Nat.lt_of_lt_of_le hj' (Nat.mul_le_mul_right _ hat.le)
              show w.cell? _ = _
              simp only [World.cell?, hv', Nat.zero_add]
              simp [Array.getElem?_eq_getElem hjc]
          · intro i' e j x he hx
            have hn0 : n ≠ 0 := by intro h0; have hl := hat.len; rw [h0] at hl; have := List.eq_nil_of_length_eq_zero hl; subst this; cases he
            have hki := hkk hn0
            subst hki
            obtain ⟨u, hu, hr⟩ := hcell i' e j x he hx
            simp only [hu, Option.getD_some]
            exact hr
    · cases hg
  · injection hg with hg; subst hg
    simp only at hek hmx hby hnid hshf grow ⊢
    cases rs with | c rs =>
    cases rs
    by_cases hx0 : xs.length = 0
    · have : xs = [] := List.eq_nil_of_length_eq_zero hx0
      subst this
      refine ⟨Z1, w, .slice none 0 0, .slice none 0 0, u1, ?_, .row base 0 _ 0 (by simp [upd]) (by simp), ?_⟩
      · exact R1.renew hmb hhb hshf (Bel.refl w) (.inl ⟨rfl, rfl⟩)
      · exact run_apd_room hu hat' hi (by simp) (hnw w (fun _ _ _ h => h)) rfl
    · exact grow none 0 (fun _ => .nilFunc) [] rfl rfl (by omega) (by simp) (by simp) (run_first [] (by simp) (.inl ⟨rfl, .inl rfl⟩)) (by simp)
  · injection hg with hg; subst hg
    cases rs with | c rs =>
    cases rs with
    | zs A => exact empty A rfl rfl rfl
  · cases hg
theorem src_slice (R : Rel w0 Z Y m h sh w) {t' e' : TypeId} (hu' : P.underlying t' = some (.slice e')) {x : V} {vx : Value} (rx : Rep Z Y m vx x) {k : Nat} (hk : 0 < k) {f : C × List Nat} {xs : List (List C)} (hf : frzC h x = some f) (hxs : f.1 = .sl xs) (hxk : ∀ el ∈ xs, el.length = k) :
    ∃ Z1, ZUp w0 Z Z1 ∧ Rel w0 Z1 Y m h (flag sh f.2) w ∧ Src P Z1 w t' k xs vx := by
  obtain ⟨Z1, u1, R1, r1⟩ := frzC_sim R (fun _ _ h => h) hf rx
  rw [hxs] at r1
  obtain ⟨B', d, rfl, hd, hdm, hsrc⟩ := sl_cells r1 R1.zok hxk
  refine ⟨Z1, u1, R1, .inl ⟨e', B', d, hu', rfl⟩, ?_⟩
  rcases hsrc with rfl | ⟨b, off, U, rfl, hcell⟩
  · exact ⟨fun _ => .nilFunc, [], by simp, by simp, fun w' _ => run_first [] (by simp) (.inl ⟨rfl, .inr (by simp)⟩), by simp, by simp⟩
  · refine ⟨U, flatU U xs.length k, flatU_len _ _ _, fun j hj => flatU_get hj, fun w' hw' => run_first _ (flatU_len _ _ _) (.inr ⟨b, off, rfl, fun j u hj => ?_⟩), fun i' e j x he hx => (hcell i' e j x he hx).2.2, fun u hu => ?_⟩
    · obtain ⟨hj', rfl⟩ := flatU_some hj
      obtain ⟨i', q, e, x, he, hx, rfl⟩ := divmod_of hk hxk hj'
      exact hw' _ _ _ (hcell i' e q x he hx).2.1
    · obtain ⟨j, hj⟩ := List.getElem?_of_mem hu
      obtain ⟨hj', rfl⟩ := flatU_some hj
      obtain ⟨i', q, e, x, he, hx, rfl⟩ := divmod_of hk hxk hj'
      exact (hcell i' e q x he hx).2.2.one
theorem bytes_get (s : ByteArray) (j : Nat) : (s.data.toList.map fun b => [byteC b])[j]? = (s.data[j]?).map fun b => [byteC b] := by simp
theorem src_str (R : Rel w0 Z Y m h sh w) {t' : TypeId} (hu' : P.underlying t' = some .string) {x : V} {vx : Value} (rx : Rep Z Y m vx x) {k : Nat} (hk1 : k = 1) {f : C × List Nat} {xs : List (List C)} (hf : strY x = some f) (hxs : f.1 = .sl xs) :
    ∃ Z1, ZUp w0 Z Z1 ∧ Rel w0 Z1 Y m h (flag sh f.2) w ∧ Src P Z1 w t' k xs vx := by
  unfold strY at hf
  split at hf
  case h_2 => cases hf
  rename_i s
  injection hf with hf; subst hf
  simp only [C.sl.injEq] at hxs
  subst hxs hk1
  cases rx with | c rx =>
  cases rx
  refine ⟨Z, ZUp.refl, by rw [flag_nil]; exact R, .inr ⟨s, hu', rfl, by rw [List.length_map, Array.length_toList]; rfl⟩, ?_⟩
  refine ⟨fun j => (s.data[j]?).elim .nilFunc fun b => .int .u8 b.toNat, s.data.toList.map fun b => .int .u8 b.toNat, by simp, ?_, ?_, ?_, ?_⟩
  · intro j hj
    simp only [List.length_map, Nat.mul_one, Array.length_toList] at hj
    simp [Array.getElem?_eq_getElem hj]
  · intro w' _
    have : (s.extract 0 s.data.size).data = s.data := by rw [ByteArray.data_extract]; simp
    simp only [Builtin.firstCells, Sem.run_pure, List.length_map, Array.length_toList, this]
    rw [← List.map_toArray, Array.toArray_toList]
  · intro i' e j x he hx
    rw [bytes_get] at he
    cases hb : s.data[i']? with
    | none => rw [hb] at he; cases he
    | some b =>
      rw [hb] at he
      injection he with he; subst he
      cases j with
      | zero =>
        simp at hx; subst hx
        simp only [Nat.mul_one, Nat.add_zero, hb, Option.elim_some]
        exact .int _ _
      | succ j => simp at hx
  · intro u hu
    obtain ⟨b, _, rfl⟩ := List.mem_map.1 hu
    rfl
/-- more rows may be shared -/
theorem Rel.sh_le (R : Rel w0 Z Y m h sh w) {sh' : Nat → Bool} (hs : ∀ i, sh i = true → sh' i = true) : Rel w0 Z Y m h sh' w := by
  refine ⟨R.bel, R.gw, R.zok, R.yok, R.box, fun id es hi => ?_, R.tab, R.mp, R.inj⟩
  rcases R.row id es hi with h0 | ⟨g, n, c, k, hm, hat⟩
  · exact .inl h0
  · exact .inr ⟨g, n, c, k, hm, ⟨hat.base, hat.ex, hat.len, hat.le, hat.max, hat.pos, hat.zero, hat.each, fun o ho => ⟨hs _ (hat.apart o ho).1, (hat.apart o ho).2⟩⟩⟩
theorem frzC_le (hs : ∀ id b, hv id = some b → h id = some b) {x : V} {y : C × List Nat} (hf : frzC hv x = some y) : frzC h x = some y := by
  unfold frzC at hf ⊢
  split at hf <;> try exact hf
  split at hf
  · rename_i e
    rw [hs _ _ e]
    exact hf
  · cases hf
end
end Go.Proofs.YtomnbknaanlmaaaGreatDoor
namespace Go.Proofs.YtomnbknaanlmaaaGreatDoor
open Go.RowKit
section
variable {P : Program} {Z Y : ZMap} {m : Nat → Option Value} {w0 : WB} {w w' : World} {h hv : Nat → Option B} {sh : Nat → Bool}
theorem bodyOf_call {g : FuncId} {fn : Func} (hb : bodyOf P g = some fn) (args : Array Value) (w : World) : (callFunc g args).run P w = .ok (.enter g args) w := by
  unfold bodyOf at hb
  cases hf : P.funcs[g]? with
  | none => rw [hf] at hb; cases hb
  | some f =>
    rw [hf] at hb
    simp only [Option.bind_some] at hb
    split at hb
    · cases hb
    · rename_i hc
      simp only [Bool.or_eq_true, not_or, Bool.not_eq_true] at hc
      simp only [callFunc, Sem.run_bind, run_program, Result.andThen_ok, hf, hc.1, hc.2, Bool.false_eq_true, if_false, Sem.run_pure]
theorem freeze_new (o1 : Array Value) (e : TypeId) : (w.alloc (.cells o1 e)).freeze ⟨w.heap.size, o1.size, none⟩ 1 = w.alloc (.cells o1 e (o1.size, o1.size + 1)) := by
  simp only [World.freeze, World.alloc, Nat.one_ne_zero, if_false]
  congr 1
  apply Array.ext_getElem?
  intro i
  rw [Array.getElem?_modify, Array.getElem?_push, Array.getElem?_push]
  by_cases hi : i = w.heap.size
  · subst hi; simp
  · rw [if_neg (Ne.symm hi), if_neg hi, if_neg hi]
theorem toBytes_run (e : TypeId) (s : ByteArray) (hs : s.size ≤ 9223372036854775807) : ∃ cap arr fz, s.size ≤ cap ∧ cap ≤ maxLen ∧ arr = s.data.map (fun b => Value.int .u8 b.toNat) ++ Array.replicate (cap - s.size) (.int .u8 0) ∧ fz = (arr.size, arr.size + 1) ∧
    (Conv.stringToBytes e s).run P w = .ok (.slice (some ⟨w.heap.size, 0, none⟩) s.size cap) (w.drew.alloc (.cells arr e fz)) := by
  generalize hcap : (Question.appendCap s.size 0 e).cut (w.tape w.drawn (.appendCap s.size 0 e)) = cap
  refine ⟨cap, _, _, ?_, ?_, rfl, rfl, ?_⟩
  · rw [← hcap]; simp [Question.cut]
  · have : w.tape w.drawn (.appendCap s.size 0 e) % (2 ^ 63 - s.size) < 2 ^ 63 - s.size := Nat.mod_lt _ (by omega)
    rw [← hcap]
    simp only [Question.cut]
    unfold maxLen
    omega
  · have hch : (choose (.appendCap s.size 0 e)).run P w = .ok cap w.drew := by rw [← hcap]; rfl
    simp only [Conv.stringToBytes, Sem.run_bind, hch, Result.andThen_ok, run_newRow]
    generalize s.data.map (fun b => Value.int .u8 b.toNat) ++ Array.replicate (cap - s.size) (.int .u8 0) = o1
    have hf := freeze_new (w := w.drew) o1 e
    have hsh : (w.drew.alloc (.cells o1 e)).shape? w.drew.heap.size = some (e, o1.size) := by
      have hb : (w.drew.alloc (.cells o1 e)).heap[w.drew.heap.size]? = some (.cells o1 e (0, 0)) := heap_alloc_new w.drew _
      unfold World.shape?
      rw [hb]
    rw [← hf]
    have h1 : (shape w.drew.heap.size).run P (w.drew.alloc (.cells o1 e)) = .ok (some (e, o1.size)) (w.drew.alloc (.cells o1 e)) := by
      rw [← hsh]; rfl
    simp only [markStringish, Sem.run_bind, h1, Result.andThen_ok]
    rfl
/-- a row of bytes gets the mark of a text's bytes -/
theorem mark_sim (R : Rel w0 Z Y m h sh w) {id n : Nat} {es : List (List C)} {v : Value} (hi : h id = some (.row es)) (r : Rep Z Y m v (.row id n)) (hall : es.all (fun el => el.length == 1) = true) (hne : es.isEmpty = false) :
    ∃ g c w1, v = .slice (some ⟨g, 0, none⟩) n c ∧ m id = some (.slice (some ⟨g, 0, none⟩) n c) ∧ (markStringish ⟨g, 0, none⟩).run P w = .ok () w1 ∧ Rel w0 Z Y m h sh w1 := by
  have hen : es ≠ [] := by intro e; rw [e] at hne; cases hne
  rcases R.row id es hi with ⟨_, e⟩ | ⟨g, n', c, k, hmi, hat⟩
  · exact absurd e hen
  have hv : v = .slice (some ⟨g, 0, none⟩) n c ∧ n = n' := by
    cases r with
    | row _ _ A c' h' hA =>
      rw [hmi] at h'
      injection h' with h'; injection h' with a1 a2 a3
      subst a1 a2 a3
      exact ⟨rfl, rfl⟩
    | row0 _ A h' => rw [hmi] at h'; injection h' with h'; injection h' with a1; cases a1
  obtain ⟨rfl, rfl⟩ := hv
  have hk : k = 1 := by
    obtain ⟨e0, es0, he⟩ := List.exists_cons_of_ne_nil hen
    have h1 := hat.each e0 (by rw [he]; simp)
    have h2 := List.all_eq_true.1 hall e0 (by rw [he]; simp)
    have h3 : e0.length = 1 := by simpa using h2
    omega
  obtain ⟨t, fz, cur, hb, hcs, ⟨hf1, hf2, hf3⟩, hcell⟩ := hat.ex
  obtain ⟨lo, hi2⟩ := fz
  have hlt : g < w.heap.size := (Array.getElem?_eq_some_iff.1 hb).1
  let fz' : Nat × Nat := if lo == hi2 then (cur.size, cur.size + 1) else (min lo cur.size, max hi2 (cur.size + 1))
  have hb1 : (w.freeze ⟨g, cur.size, none⟩ 1).heap[g]? = some (.cells cur t fz') := by
    simp only [World.freeze, Nat.one_ne_zero, if_false, Array.getElem?_modify, hb]
    rfl
  have hfz : (∀ o, o < cur.size → ¬ (fz'.1 ≤ o ∧ o < fz'.2)) ∧ (k ≠ 1 → fz' = (0, 0)) ∧ fz'.1 ≤ fz'.2 := by
    by_cases e : lo = hi2
    · have : fz' = (cur.size, cur.size + 1) := by simp [fz', e]
      rw [this]
      exact ⟨fun o ho => by simp only; omega, fun h => absurd hk h, by simp only; omega⟩
    · have hl : lo < hi2 := by simp only at hf3; omega
      have hge : cur.size ≤ lo := by
        rcases Nat.lt_or_ge lo cur.size with h | h
        · exact absurd ⟨Nat.le_refl _, hl⟩ (hf1 lo h)
        · exact h
      have : fz' = (min lo cur.size, max hi2 (cur.size + 1)) := by simp [fz', e]
      rw [this, Nat.min_eq_right hge]
      exact ⟨fun o ho => by simp only; omega, fun h => absurd hk h, by simp only; omega⟩
  have hw : Wr g w (w.freeze ⟨g, cur.size, none⟩ 1) := by
    refine ⟨rfl, rfl, rfl, ?_, fun q hq => ?_⟩
    · show (w.heap.modify _ _).size = _
      rw [Array.size_modify]
    · show (w.heap.modify _ _)[q]? = _
      rw [Array.getElem?_modify, if_neg (Ne.symm hq)]
  refine ⟨g, c, w.freeze ⟨g, cur.size, none⟩ 1, rfl, hmi, ?_, ?_⟩
  · have hsh : w.shape? g = some (t, cur.size) := by unfold World.shape?; rw [hb]
    have h1 : (shape g).run P w = .ok (some (t, cur.size)) w := by rw [← hsh]; rfl
    simp only [markStringish, Sem.run_bind, h1, Result.andThen_ok]
    rfl
  · have hW := R.write (b' := .row es) (v := .slice (some ⟨g, 0, none⟩) n c) (sh' := sh) (base := id) hi (by simp [blkOf, hmi]) hw (.inl rfl) (fun _ _ _ _ => rfl) (fun o u hz => by
      have := R.zok _ _ _ hz
      simp only [World.cell?, hb] at this
      simp only [World.cell?, hb1]
      exact this) (fun _ => hmi) (.inr (.inl ⟨es, n, c, k, rfl, rfl, ⟨hat.base, ⟨t, fz', cur, hb1, hcs, hfz, hcell⟩, hat.len, hat.le, hat.max, hat.pos, hat.zero, hat.each, hat.apart⟩⟩))
    rw [upd_same, upd_id hmi] at hW
    have e : upd h id (some (.row es)) = h := by funext j; simp only [upd]; split; (rename_i e; subst e; exact hi.symm); rfl
    rw [e] at hW
    exact hW
theorem flat0_rep {Z Z' Y Y' : ZMap} {m m' : Nat → Option Value} {f : Nat → Nat} {v : Value} {x : V} (hx : flat0 x = true) (r : Rep Z' Y' m' v x) : cellR f x = x ∧ Rep Z Y m v x := by
  cases r with
  | c h =>
    refine ⟨rfl, .c ?_⟩
    cases h with
    | sl => cases hx
    | int k n => exact .int k n
    | bool b => exact .bool b
    | str s => exact .str s
    | nilS => exact .nilS
    | ne a c hc => exact .ne a c hc
    | zs A => exact .zs A
    | nilP => exact .nilP
    | nilF => exact .nilF
  | _ => cases hx
theorem flat1_rep {Z Z' Y Y' : ZMap} {m m' : Nat → Option Value} {f : Nat → Nat} {v : Value} {x : V} (hx : flat1 x = true) (r : Rep Z' Y' m' v x) : Rep Z Y m v (aggR f x) := by
  cases r with
  | agg vs cs hl h1 hr =>
    refine .agg vs _ (by simp [hl]) h1 (fun i u x hu hx' => ?_)
    rw [List.getElem?_map] at hx'
    cases hc : cs[i]? with
    | none => rw [hc] at hx'; cases hx'
    | some y =>
      rw [hc] at hx'
      injection hx' with hx'
      obtain ⟨e, r'⟩ := flat0_rep (Z := Z) (Y := Y) (m := m) (f := f) (List.all_eq_true.1 hx y (List.mem_of_getElem? hc)) (hr i u y hu hc)
      rw [← hx', e]
      exact r'
  | c h =>
    rename_i y
    have hx' : flat0 (.c y) = true := hx
    obtain ⟨e, r'⟩ := flat0_rep (Z := Z) (Y := Y) (m := m) (f := f) hx' (Rep.c (Y := Y') (m := m') h)
    exact r'
  | _ => cases hx
theorem flat_rep {Z Z' Y Y' : ZMap} {m m' : Nat → Option Value} {f : Nat → Nat} {v : Value} {x : V} (hx : flatV x = true) (r : Rep Z' Y' m' v x) : Rep Z Y m v (x.ren f) := by
  cases r with
  | tup us vs hl hr =>
    refine .tup us _ (by simp [hl]) (fun i u y hu hy => ?_)
    rw [List.getElem?_map] at hy
    cases hc : vs[i]? with
    | none => rw [hc] at hy; cases hy
    | some z =>
      rw [hc] at hy
      injection hy with hy; subst hy
      exact flat1_rep (List.all_eq_true.1 hx z (List.mem_of_getElem? hc)) (hr i u z hu hc)
  | agg vs cs hl h1 hr => exact flat1_rep (x := .agg cs) hx (.agg vs cs hl h1 hr)
  | c h => exact flat1_rep (f := f) (Y' := Y') (m' := m') (x := .c _) hx (.c h)
  | _ => cases hx
theorem noM_mono {m : Nat → Option Value} : MLe noM m := fun _ _ h => by cases h
set_option maxHeartbeats 1000000 in
theorem ev1_call_sim {call : FuncId → List V → Option (V × List B)} (hcall : ∀ g args res, call g args = some res → CallOk P g args res) {a : Act} {r : Operand → V} (hρ : ∀ x, Rep Z Y m (a.eval x) (r x)) (R : Rel w0 Z Y m h sh w) (hs : ∀ id b, hv id = some b → h id = some b) {dst : Option Nat} {ty : TypeId} {pos : String} {aft : Array Edge} {gd : Option (Nat × Bool)} {f : Operand} {args : Array Operand} {ats : Array TypeId} {base : Nat}
    (hfr : ∀ i, base ≤ i → i < base + 8 → m i = none ∧ h i = none) {res : V × List B × List Nat} (hev : ev1 P call hv r base (.call { callee := .value f, args := args, argTypes := ats }) = some res) (hlen : res.2.1.length ≤ 8) {K : Act → World → Prop} {Q : Exit → Act → World → Prop}
    (hK : ∀ cv w' Z' m', ZUp w0 Z Z' → MLe m m' → (∀ i, m' i ≠ none → m i ≠ none ∨ (base ≤ i ∧ i < base + res.2.1.length)) → Rel w0 Z' Y m' (addB h base res.2.1) (flag sh res.2.2) w' → Rep Z' Y m' cv res.1 → K (a.put dst cv) w') : ({ dst := dst, op := .call { callee := .value f, args := args, argTypes := ats }, type := ty, pos := pos, after := aft, guard := gd } : Oper).wp P a w K Q := by
  simp only [ev1] at hev
  split at hev
  · rename_i g caps hf
    cases hb : bodyOf P (cFn g) with
    | none => rw [hb] at hev; cases hev
    | some fn =>
      rw [hb] at hev
      simp only [Option.bind_some] at hev
      cases hx : frzAs hv (args.toList.map r) with
      | none => rw [hx] at hev; cases hev
      | some x =>
        rw [hx] at hev
        simp only [Option.bind_some] at hev
        cases hy : frzPs hv caps with
        | none => rw [hy] at hev; cases hev
        | some y =>
          rw [hy] at hev
          simp only [Option.bind_some] at hev
          cases hc : call (cFn g) (cAr g x.1 y.1) with
          | none => rw [hc] at hev; cases hev
          | some z =>
            rw [hc] at hev
            simp only [Option.bind_some] at hev
            split at hev
            · rename_i hz8
              injection hev with hev; subst hev
              have rf := hf ▸ hρ f
              generalize hvf : a.eval f = vf at rf
              obtain ⟨cs, hcl, hcr, hvv, _⟩ := rf.fun
              · obtain ⟨Z1, u1, R1, l1, r1⟩ := frzAs_sim hs (args.toList.map r) (us := (args.map a.eval).toList) R hx (by simp) (fun i u v hu hv => getElem?_map_toList hρ args i u v (by simpa using hu) hv)
                obtain ⟨Z2, u2, R2, l2, r2⟩ := frzPs_sim hs caps (us := cs.toList) R1 hy (by simpa using hcl) (fun i u v hu hv => (hcr i u v (by simpa using hu) hv).mono u1.le (MLe.refl _))
                obtain ⟨ok1, ok2, hcalls⟩ := hcall _ _ _ hc
                obtain ⟨hA1, hA2⟩ := cAr_rep (R := fun u v => Rep Z2 (lent w) noM u v) g (asx := args.map a.eval) (cs := cs) (xs := x.1) (ys := y.1) (by simp [l1]) (by rw [l2]; exact hcl) (fun i u v hu hv => (r1 i u v (by simpa using hu) hv).mono u2.le (MLe.refl _)) (fun i u v hu hv => r2 i u v (by simpa using hu) hv)
                have hC := hcalls w Z2 (lent w) (cArr g (args.map a.eval) cs) (R2.bel.gw R2.gw) R2.zok (fun b o u hu => hu) hA1 hA2
                have hrun : (execOp a.eval { dst := dst, op := .call { callee := .value f, args := args, argTypes := ats }, type := ty, pos := pos, after := aft, guard := gd }).run P w = .ok (.enter (cFn g) (cArr g (args.map a.eval) cs)) w := by
                  rcases hvv with ⟨hb1, rfl⟩ | ⟨hb1, rfl⟩
                  · simp only [cFn, hb1, cond_true] at hb
                    simp only [execOp, resolve, hvf, Deferred.ofValue, Sem.run_bind, Sem.run_pure, Result.andThen_ok, invoke, Array.empty_append, bodyOf_call hb, cFn, cArr, hb1, cond_true]
                  · simp only [cFn, hb1, cond_false] at hb
                    simp only [execOp, resolve, hvf, Deferred.ofValue, Sem.run_bind, Sem.run_pure, Result.andThen_ok, invoke, Array.append_empty, bodyOf_call hb, cFn, cArr, hb1, cond_false]
                unfold Oper.wp
                rw [hrun]
                refine hC.mono ?_
                rintro e w' ⟨cv, Z', m', rfl, hz', Rc, rep, hmb'⟩
                cases hlb : lendB z with
                | true =>
                  unfold lendB at hlb
                  rw [Bool.and_eq_true, List.isEmpty_iff] at hlb
                  simp only [hlb.1] at hK ⊢
                  refine hK cv w' Z m ZUp.refl (MLe.refl m) (fun i hi => .inl hi) ?_ (flat_rep hlb.2 rep)
                  rw [addB_nil]
                  have hlb' : lendB z = true := by unfold lendB; rw [hlb.1, hlb.2]; rfl
                  rw [hlb', cond_true, flag_nil]
                  exact R.later (wb_bel.1 Rc.bel)
                | false =>
                simp only [hlb, cond_false] at hK
                refine hK cv w' Z' (fun i => if base ≤ i ∧ i < base + z.2.length then m' (i - base) else m i) ((u1.trans u2).trans ⟨hz'.le, fun b o u hu => (hz'.own b o u hu).imp id (fun h => .inl (Nat.le_trans R.bel.size (wb_own.1 h)))⟩) ?_ ?_ ?_ ?_
                · intro i v hi
                  show (if base ≤ i ∧ i < base + z.2.length then m' (i - base) else m i) = some v
                  rw [if_neg (fun hc => by rw [(hfr i hc.1 (by omega)).1] at hi; cases hi)]
                  exact hi
                · intro i hi
                  split at hi
                  · rename_i hc; exact .inr hc
                  · exact .inl hi
                · rw [← flag_append]
                  exact R2.join Rc hz' (fun i h1 h2 => hfr i h1 (by omega)) ok2
                · refine ren_rep (fun i v hi => ?_) ok1 rep
                  have := hmb' i (by rw [hi]; simp)
                  show (if base ≤ base + i ∧ base + i < base + z.2.length then m' (base + i - base) else m (base + i)) = some v
                  rw [if_pos (by omega)]
                  simpa using hi
            · cases hev
  · cases hev
theorem ev1_apd_sim {call : FuncId → List V → Option (V × List B)} (_hcall : ∀ g args res, call g args = some res → CallOk P g args res) {a : Act} {r : Operand → V} (hρ : ∀ x, Rep Z Y m (a.eval x) (r x)) (R : Rel w0 Z Y m h sh w) (hs : ∀ id b, hv id = some b → h id = some b) {dst : Option Nat} {ty : TypeId} {pos : String} {aft : Array Edge} {gd : Option (Nat × Bool)} {args : Array Operand} {ats : Array TypeId} {base : Nat}
    (hfr : ∀ i, base ≤ i → i < base + 8 → m i = none ∧ h i = none) {res : V × List B × List Nat} (hev : ev1 P call hv r base (.call { callee := .builtin .append, args := args, argTypes := ats }) = some res) (hlen : res.2.1.length ≤ 8) {K : Act → World → Prop} {Q : Exit → Act → World → Prop}
    (hK : ∀ cv w' Z' m', ZUp w0 Z Z' → MLe m m' → (∀ i, m' i ≠ none → m i ≠ none ∨ (base ≤ i ∧ i < base + res.2.1.length)) → Rel w0 Z' Y m' (addB h base res.2.1) (flag sh res.2.2) w' → Rep Z' Y m' cv res.1 → K (a.put dst cv) w') : ({ dst := dst, op := .call { callee := .builtin .append, args := args, argTypes := ats }, type := ty, pos := pos, after := aft, guard := gd } : Oper).wp P a w K Q := by
  simp only [ev1] at hev
  split at hev
  · rename_i t t' s x ht hs'
    split at hev
    · rename_i e e' hu hu' hzs
      cases hi : P.info? e with
      | none => rw [hi] at hev; cases hev
      | some i =>
      rw [hi] at hev
      simp only [Option.bind_some] at hev
      split at hev
      case isFalse => cases hev
      rename_i hz
      cases hf : frzC hv (r x) with
      | none => rw [hf] at hev; cases hev
      | some f =>
      rw [hf] at hev
      simp only [Option.bind_some] at hev
      split at hev
      case h_2 => cases hev
      rename_i xs hxs
      split at hev
      case isFalse => cases hev
      rename_i hc
      injection hev with hev; subst hev
      have hb0 := hfr base (Nat.le_refl _) (by simp)
      have hap : apdV P h sh base e (r s) (frzC h (r x)) = some (.row base (0 + xs.length), upd (dropO h none) base (some (.row ([] ++ xs))), upd (fun j => if j ∈ f.2 then true else sh j) base false) := by
        unfold apdV
        simp only [hi, Option.bind_some]
        rw [if_pos hz, frzC_le hs hf]
        simp only [Option.bind_some, hxs, hzs, tgtV]
        rw [if_pos ⟨by simp only [hc.1, List.all_nil, Bool.and_true], by simpa using hc.2.1, by simpa using hc.2.2, rfl⟩]
        rfl
      obtain ⟨Z', w1, cv, mv, u1, R1, r1, hrun⟩ := apdV_sim (t' := t') (vx := a.eval x) (ty := ty) R hu hb0.1 hb0.2 hap (hρ s) (fun i' f' xs' _ hk' hf' hxs' hxk' => src_slice R hu' (hρ x) hk' hf' hxs' hxk')
      have ea : args = #[s, x] := by rw [← Array.toList_inj]; exact hs'
      have et : ats = #[t, t'] := by rw [← Array.toList_inj]; exact ht
      subst ea et
      refine wp_value (cv := cv) (w' := w1) ?_ (hK cv w1 Z' (upd m base (some mv)) u1 (MLe.up hb0.1) (upd_new (by simp)) ?_ ?_)
      · simp only [execOp, resolve, invoke, builtin, Sem.run_bind, Sem.run_pure, Result.andThen_ok, List.map_toArray, List.map_cons, List.map_nil, hrun]
      · rw [addB_one]
        refine (R1.sh_le (sh' := flag sh f.2) fun q hq => ?_)
        simp only [upd] at hq
        split at hq
        · cases hq
        · exact hq
      · simpa using r1
    · cases hev
  · cases hev
theorem ev1_sim {call : FuncId → List V → Option (V × List B)} (hcall : ∀ g args res, call g args = some res → CallOk P g args res) {a : Act} {r : Operand → V} (hρ : ∀ x, Rep Z Y m (a.eval x) (r x)) (R : Rel w0 Z Y m h sh w) (hs : ∀ id b, hv id = some b → h id = some b) {o : Oper} {base : Nat}
    (hfr : ∀ i, base ≤ i → i < base + 8 → m i = none ∧ h i = none) {res : V × List B × List Nat} (hev : ev1 P call hv r base o.op = some res) (hlen : res.2.1.length ≤ 8) {K : Act → World → Prop} {Q : Exit → Act → World → Prop}
    (hK : ∀ cv w' Z' m', ZUp w0 Z Z' → MLe m m' → (∀ i, m' i ≠ none → m i ≠ none ∨ (base ≤ i ∧ i < base + res.2.1.length)) → Rel w0 Z' Y m' (addB h base res.2.1) (flag sh res.2.2) w' → Rep Z' Y m' cv res.1 → K (a.put o.dst cv) w') : o.wp P a w K Q := by
  have hmb : m base = none := (hfr base (Nat.le_refl _) (by omega)).1
  obtain ⟨dst, op, ty, pos, aft, gd⟩ := o
  simp only at hev hK
  unfold ev1 at hev
  split at hev
  · rename_i t x
    cases hl : loadV P hv t (r x) with
    | none => rw [hl] at hev; cases hev
    | some v =>
      rw [hl] at hev
      injection hev with hev; subst hev
      obtain ⟨cv, h1, h2⟩ := loadV_sim R hs hl (hρ x)
      refine wp_value (cv := cv) (w' := w) (by simp [execOp, h2]) (hK cv w Z m ZUp.refl (MLe.refl m) (fun i hi => .inl hi) ?_ h1)
      rw [addB_nil, flag_nil]; exact R
  · rename_i e
    cases hz : zeroV P e with
    | none => rw [hz] at hev; cases hev
    | some z =>
      rw [hz] at hev
      simp only [Option.bind_some] at hev
      cases hc : z.cells with
      | none => rw [hc] at hev; cases hev
      | some cs =>
        rw [hc] at hev
        injection hev with hev; subst hev
        obtain ⟨zv, rz, _, wz⟩ := zeroV_sim (Z := Z) (Y := Y) (m := m) hz
        refine wp_value (cv := .pointer (some ⟨w.heap.size, 0, none⟩)) (w' := w.alloc (.cells zv.cells e)) (by simp [execOp, Instr.alloc, wz, newVar, run_newRow]) ?_
        refine hK _ _ Z (upd m base (some (.pointer (some ⟨w.heap.size, 0, none⟩)))) ZUp.refl (MLe.up hmb) (upd_new (by simp)) ?_ (.ptr base 0 w.heap.size (by simp [upd]))
        rw [addB_one, flag_nil]
        exact R.new_box e hmb (rz.cells hc)
  · rename_i e x
    cases hc : (r x).cells with
    | none => rw [hc] at hev; cases hev
    | some cs =>
      rw [hc] at hev
      injection hev with hev; subst hev
      refine wp_value (cv := .pointer (some ⟨w.heap.size, 0, none⟩)) (w' := w.alloc (.cells (a.eval x).cells e)) (by simp [execOp, Instr.box, newVar, run_newRow]) ?_
      refine hK _ _ Z (upd m base (some (.pointer (some ⟨w.heap.size, 0, none⟩)))) ZUp.refl (MLe.up hmb) (upd_new (by simp)) ?_ (.ptr base 0 w.heap.size (by simp [upd]))
      rw [addB_one, flag_nil]
      exact R.new_box e hmb ((hρ x).cells hc)
  · rename_i t
    injection hev with hev; subst hev
    refine wp_value (cv := .map (some w.heap.size)) (w' := w.alloc (.map #[] 0)) (by simp [execOp, Instr.makeMap, newObj]; rfl) ?_
    refine hK _ _ Z (upd m base (some (.map (some w.heap.size)))) ZUp.refl (MLe.up hmb) (upd_new (by simp)) ?_ (.mp base w.heap.size (by simp [upd]))
    rw [addB_one, flag_nil]
    exact R.new hmb (.inr trivial) (.inr (.inr <| .inr ⟨[], rfl, rfl, .inl R.bel.size, #[], 0, heap_alloc_new w _, by simp, MapKept.stamped_empty 0, by simp, rfl⟩))
  · rename_i t len parts
    split at hev
    · rename_i e hu
      cases hsz : szO P e with
      | none => rw [hsz] at hev; cases hev
      | some k =>
        rw [hsz] at hev
        simp only [Option.bind_some] at hev
        split at hev
        · rename_i hlk
          cases hz : zeroV P e with
          | none => rw [hz] at hev; cases hev
          | some z =>
            rw [hz] at hev
            simp only [Option.bind_some] at hev
            cases hc : z.cells with
            | none => rw [hc] at hev; cases hev
            | some zc =>
              rw [hc] at hev
              simp only [Option.bind_some] at hev
              cases hf : frzL hv zc with
              | none => rw [hf] at hev; cases hev
              | some z' =>
                rw [hf] at hev
                simp only [Option.bind_some] at hev
                split at hev
                · rename_i hz'
                  split at hev
                  · rename_i hl0
                    split at hev
                    · rename_i hp
                      injection hev with hev; subst hev
                      subst hl0
                      have hp' : parts = #[] := by simpa using hp
                      subst hp'
                      have hrun : (execOp a.eval { dst := dst, op := .buildSlice t 0 #[], type := ty, pos := pos, after := aft, guard := gd }).run P w = .ok (.value (.slice (some ⟨w.heap.size, 0, none⟩) 0 0)) (w.alloc (.cells #[] e)) := by
                        have hgt : ¬ (0 > 2 ^ 24) := by omega
                        have hr0 : Array.range 0 = #[] := rfl
                        simp only [execOp, Instr.buildSlice, Sem.run_bind, run_und hu, Result.andThen_ok, run_sz hsz, Nat.zero_mul, hgt, if_false, if_true, Sem.run_pure, hr0, Array.map_empty]
                        rfl
                      refine wp_value hrun (hK _ _ Z m ZUp.refl (MLe.refl m) (fun i hi => .inl hi) ?_ (.c (.zs _)))
                      rw [addB_nil]
                      exact R.later ((Bel.refl w).alloc _)
                    · cases hev
                  cases hb : buildS hv k len r parts.toList (List.replicate len z'.1) with
                  | none => rw [hb] at hev; cases hev
                  | some y =>
                    rw [hb] at hev
                    injection hev with hev; subst hev
                    obtain ⟨zv, rz, _, wz⟩ := zeroV_sim (P := P) (Z := Z) (Y := Y) (m := m) hz
                    have rc := rz.cells hc
                    obtain ⟨Z1, u1, R1, l1, r1⟩ := frzL_sim zc (us := zv.cells.toList) R hs hf (by simpa using rc.agg_size) (fun i u x hu hx => by
                      obtain ⟨u', hu', hr', _⟩ := rc.agg_get hx
                      rw [Array.getElem?_toList, hu'] at hu
                      injection hu with hu; subst hu; exact hr')
                    rw [hz'.2, flag_nil] at R1
                    have hzk : zv.cells.size = k := by rw [rc.agg_size, ← l1]; exact hz'.1
                    have hla := laid_zero (Z := Z1) (k := k) (len := len) (zs := zv.cells) hz'.1 hzk (fun j u x hu hx => r1 j u x (by simpa using hu) hx)
                    obtain ⟨Z2, cur, u2, R2, l2, c2, la2, f2⟩ := build_sim (ρ := a.eval) hlk.2 hs parts.toList R1 (fun x => (hρ x).mono u1.le (MLe.refl _)) hb (by simp) (by simp) hla
                    have hrun : (execOp a.eval { dst := dst, op := .buildSlice t len parts, type := ty, pos := pos, after := aft, guard := gd }).run P w = .ok (.value (.slice (some ⟨w.heap.size, 0, none⟩) len len)) (w.alloc (.cells cur e)) := by
                      have e1 : (parts.map fun p => (p.1, a.eval p.2)).toList = parts.toList.map fun p => (p.1, a.eval p.2) := by simp
                      have hgt : ¬ len * k > 2 ^ 24 := by have := hlk.1; omega
                      simp only [execOp, Instr.buildSlice, Sem.run_bind, run_und hu, Result.andThen_ok, run_sz hsz, hgt, if_false, e1]
                      by_cases h0 : len * k = 0
                      · simp only [h0, if_true, Sem.run_pure]
                        have hl0 : len = 0 := by rcases Nat.mul_eq_zero.1 h0 with h | h; exact h; omega
                        subst hl0
                        simp only [Nat.zero_mul] at f2 ⊢
                        have hr0 : Array.range 0 = #[] := rfl
                        simp only [hr0, Array.map_empty] at f2 ⊢
                        rw [f2]
                        rfl
                      · simp only [h0, if_false, Sem.run_bind, wz, Result.andThen_ok, Sem.run_pure]
                        rw [f2]
                        rfl
                    refine wp_value hrun ?_
                    have hle : len ≤ maxLen := by have := hlk.1; have := Nat.le_mul_of_pos_right len hlk.2; unfold maxLen; omega
                    refine hK _ _ Z2 (upd m base (some (.slice (some ⟨w.heap.size, 0, none⟩) len len))) (u1.trans u2) (MLe.up hmb) (upd_new (by simp)) ?_ (.row base len _ len (by simp [upd]) (fun _ => ⟨_, rfl⟩))
                    rw [addB_one]
                    exact R2.new_row e (0, 0) hmb l2 (Nat.le_refl _) hle hlk.2 (fun h => h) c2 (by simp) la2.1 la2.2
                · cases hev
        · cases hev
    · cases hev
  · rename_i t l c
    split at hev
    · rename_i e k1 n k2 n' hu hl hc
      cases hi : P.info? e with
      | none => rw [hi] at hev; cases hev
      | some i =>
        rw [hi] at hev
        simp only [Option.bind_some] at hev
        split at hev
        · rename_i hcond
          obtain ⟨rfl, hn0, hby, hmx, hpos⟩ := hcond
          cases hz : zeroV P e with
          | none => rw [hz] at hev; cases hev
          | some z =>
            rw [hz] at hev
            simp only [Option.bind_some] at hev
            cases hc' : z.cells with
            | none => rw [hc'] at hev; cases hev
            | some zc =>
              rw [hc'] at hev
              simp only [Option.bind_some] at hev
              cases hf : frzL hv zc with
              | none => rw [hf] at hev; cases hev
              | some z' =>
                rw [hf] at hev
                simp only [Option.bind_some] at hev
                split at hev
                · rename_i hz'
                  injection hev with hev; subst hev
                  have el := rep_int (hl ▸ hρ l)
                  have ec := rep_int (hc ▸ hρ c)
                  obtain ⟨zv, rz, _, wz⟩ := zeroV_sim (P := P) (Z := Z) (Y := Y) (m := m) hz
                  have rc := rz.cells hc'
                  obtain ⟨Z1, u1, R1, l1, r1⟩ := frzL_sim zc (us := zv.cells.toList) R hs hf (by simpa using rc.agg_size) (fun i u x hu hx => by
                    obtain ⟨u', hu', hr', _⟩ := rc.agg_get hx
                    rw [Array.getElem?_toList, hu'] at hu
                    injection hu with hu; subst hu; exact hr')
                  rw [hz'.2, flag_nil] at R1
                  have hzk : zv.cells.size = i.size := by rw [rc.agg_size, ← l1]; exact hz'.1
                  have hla := laid_zero (Z := Z1) (k := i.size) (len := n.toNat) (zs := zv.cells) hz'.1 hzk (fun j u x hu hx => r1 j u x (by simpa using hu) hx)
                  have hw : IntKind.i64.wrap n = n := IntWalk.i64_in n (by omega)
                  have hle : n.toNat ≤ maxLen := by unfold maxLen; omega
                  have hsz : szO P e = some i.size := by simp [szO, hi]
                  obtain ⟨cur, hcur, hcs, hcl⟩ : ∃ cur : Array Value, cur = (if n.toNat * i.size = 0 then #[] else (Array.range (n.toNat * i.size)).map (zv.cells[· % zv.cells.size]!)) ∧ cur.size = n.toNat * i.size ∧ Laid Z1 i.size (List.replicate n.toNat z'.1) cur := by
                    refine ⟨_, rfl, ?_, ?_⟩
                    · split
                      · rename_i h0; simp [h0]
                      · simp
                    · split
                      · rename_i h0
                        have : n.toNat = 0 := by rcases Nat.mul_eq_zero.1 h0 with h | h; exact h; omega
                        rw [this]
                        exact ⟨by simp, by simp⟩
                      · exact hla
                  have hrun : (execOp a.eval { dst := dst, op := .makeSlice t l c, type := ty, pos := pos, after := aft, guard := gd }).run P w = .ok (.value (.slice (some ⟨w.heap.size, 0, none⟩) n.toNat n.toNat)) (w.alloc (.cells cur e)) := by
                    have hbig : ¬ ((i.bytes : Int) * n > 2 ^ 48) := by
                      have : (i.bytes : Int) * n = n * i.bytes := Int.mul_comm _ _
                      rw [this]; omega
                    have hroom : ¬ (n.toNat * i.bytes > roomBytes) := by
                      have : ((n.toNat * i.bytes : Nat) : Int) = n * i.bytes := by push_cast; rw [Int.toNat_of_nonneg hn0]
                      unfold roomBytes; omega
                    have hneg : ¬ n < 0 := by omega
                    simp only [execOp, Instr.makeSlice, el, ec, asInt, asIntOf, Sem.run_bind, run_und hu, Result.andThen_ok, Sem.run_pure, run_inf hi, hw, hneg, hbig, decide_false, Bool.or_self, Bool.false_or, Int.lt_irrefl, gt_iff_lt, Bool.false_eq_true, if_false, askRoom, run_sz hsz]
                    rw [if_neg (by simpa using hroom)]
                    simp only [Sem.run_pure, Result.andThen_ok]
                    by_cases h0 : n.toNat * i.size = 0
                    · have hr0 : Array.range 0 = #[] := rfl
                      simp only [h0, if_true, Sem.run_bind, Sem.run_pure, Result.andThen_ok, run_newRow, hcur, hr0, Array.map_empty]
                    · simp only [h0, if_false, Sem.run_bind, wz, Sem.run_pure, Result.andThen_ok, run_newRow, hcur]
                  refine wp_value hrun ?_
                  refine hK _ _ Z1 (upd m base (some (.slice (some ⟨w.heap.size, 0, none⟩) n.toNat n.toNat))) u1 (MLe.up hmb) (upd_new (by simp)) ?_ (.row base n.toNat _ n.toNat (by simp [upd]) (fun _ => ⟨_, rfl⟩))
                  rw [addB_one, flag_nil]
                  by_cases hsl : (∃ e', P.underlying e = some (.slice e')) ∧ i.size = 1
                  · obtain ⟨⟨e', hsl⟩, hk1⟩ := hsl
                    have hb : mkB P e i.size n.toNat (List.replicate n.toNat z'.1) = .tab (List.replicate n.toNat z'.1) n.toNat (.c .nilS) := by simp only [mkB, hsl, hk1]
                    rw [hk1] at hcs hcl
                    rw [hb]
                    exact R1.new_tab e (0, 0) hmb (by simp) (Nat.le_refl _) (by simpa using hcs) (by simp) hcl.1 hcl.2
                  · have hb : mkB P e i.size n.toNat (List.replicate n.toNat z'.1) = .row (List.replicate n.toNat z'.1) := by
                      unfold mkB
                      split
                      · rename_i e' h' h''; exact absurd ⟨⟨e', h'⟩, h''⟩ hsl
                      · rfl
                    rw [hb]
                    exact R1.new_row e (0, 0) hmb (by simp) (Nat.le_refl _) hle hpos (fun h => h) hcs (by simp) hcl.1 hcl.2
                · cases hev
        · cases hev
    · cases hev
  · rename_i t x lo hi mx
    split at hev
    · rename_i e hu
      cases hf : frzC hv (r x) with
      | none => rw [hf] at hev; cases hev
      | some y =>
        rw [hf] at hev
        simp only [Option.bind_some] at hev
        split at hev
        · rename_i es hy
          cases hsz : szO P e with
          | none => rw [hsz] at hev; cases hev
          | some k =>
            rw [hsz] at hev
            simp only [Option.bind_some] at hev
            cases h1 : bnd (mx.map r) es.length es.length with
            | none => rw [h1] at hev; cases hev
            | some mm =>
              rw [h1] at hev
              simp only [Option.bind_some] at hev
              cases h2 : bnd (hi.map r) es.length mm with
              | none => rw [h2] at hev; cases hev
              | some u =>
                rw [h2] at hev
                simp only [Option.bind_some] at hev
                cases h3 : bnd (lo.map r) 0 u with
                | none => rw [h3] at hev; cases hev
                | some l =>
                  rw [h3] at hev
                  simp only [Option.bind_some] at hev
                  obtain ⟨Z1, u1, R1, r1⟩ := frzC_sim R hs hf (hρ x)
                  rw [hy] at r1
                  have hform : ∃ A c, a.eval x = .slice A es.length c ∧ es.length ≤ c := by
                    generalize a.eval x = vx at r1
                    cases r1 with
                    | sl A n c k' b off U _ hl hc hm hk' hA hz hr hN => subst hl; exact ⟨A, c, rfl, hc⟩
                  obtain ⟨A, c, hv', hc⟩ := hform
                  split at hev
                  · cases hev
                  · rename_i hmh
                    obtain ⟨hlu, hul, cm, c1, c2, c3, hrun⟩ := slice_run (P := P) (w := w) (v := a.eval x) hρ hu hsz h1 h2 h3 (by simpa using hmh) hv' hc
                    split at hev
                    · rename_i hzs
                      injection hev with hev; subst hev
                      have hcm := c3 hzs.1
                      have hrun' : (execOp a.eval { dst := dst, op := .slice t x lo hi mx, type := ty, pos := pos, after := aft, guard := gd }).run P w = .ok (.value (.slice (if cm = l then A else A.map (·.add (l * k))) (u - l) (cm - l))) w := by simp only [execOp, Sem.run_bind, hrun, Result.andThen_ok, Sem.run_pure]
                      refine wp_value hrun' (hK _ w Z m ZUp.refl (MLe.refl m) (fun i hi => .inl hi) (by rw [addB_nil, flag_nil]; exact R) ?_)
                      have : u = l := by omega
                      subst this
                      have : cm = u := by omega
                      subst this
                      simp only [Nat.sub_self]
                      exact .c (.zs _)
                    · split at hev
                      · rename_i hall
                        injection hev with hev; subst hev
                        have hk : ∀ e ∈ es, e.length = k := fun e he => by simpa using List.all_eq_true.1 hall e he
                        obtain ⟨A', c', e1, _, hsub⟩ := sub_sim r1 hlu hul hk
                        rw [hv'] at e1
                        injection e1 with a1 a2 a3
                        subst a1 a3
                        have hrun' : (execOp a.eval { dst := dst, op := .slice t x lo hi mx, type := ty, pos := pos, after := aft, guard := gd }).run P w = .ok (.value (.slice (if cm = l then A else A.map (·.add (l * k))) (u - l) (cm - l))) w := by simp only [execOp, Sem.run_bind, hrun, Result.andThen_ok, Sem.run_pure]
                        exact wp_value hrun' (hK _ w Z1 m u1 (MLe.refl m) (fun i hi => .inl hi) (by rw [addB_nil]; exact R1) (.c (hsub cm c1 c2)))
                      · cases hev
        · cases hev
    · cases hev
  · rename_i src dst' x
    split at hev
    · rename_i e h1 h2
      split at hev
      · rename_i s h3 hx
        have es := rep_str (hx ▸ hρ x)
        split at hev
        · rename_i hcond
          obtain ⟨cap, arr, fz, hc1, hc2, harr, hfz, hrun⟩ := toBytes_run (P := P) (w := w) e s hcond.2
          have hrun' : (execOp a.eval { dst := dst, op := .convert src dst' x, type := ty, pos := pos, after := aft, guard := gd }).run P w = .ok (.value (.slice (some ⟨w.heap.size, 0, none⟩) s.size cap)) (w.drew.alloc (.cells arr e fz)) := by
            simp only [execOp, es, convert, Sem.run_bind, run_und h1, run_und h2, Result.andThen_ok, run_und h3, hrun, Sem.run_pure]
          split at hev
          · rename_i h0
            injection hev with hev; subst hev
            refine wp_value hrun' (hK _ _ Z m ZUp.refl (MLe.refl m) (fun i hi => .inl hi) ?_ (.c ?_))
            · rw [addB_nil, flag_nil]
              exact R.later ((Bel.refl w).drew.alloc _)
            · rw [h0]
              exact repC_empty Z hc2 (fun h => by cases h)
          · rename_i h0
            injection hev with hev; subst hev
            refine wp_value hrun' (hK _ _ Z (upd m base (some (.slice (some ⟨w.heap.size, 0, none⟩) s.size cap))) ZUp.refl (MLe.up hmb) (upd_new (by simp)) ?_ (.row base s.size _ cap (by simp [upd]) (fun _ => ⟨_, rfl⟩)))
            rw [addB_one, flag_nil]
            have hdl : s.data.size = s.size := rfl
            refine (R.later (Bel.refl w).drew).new_row (k := 1) e fz hmb (by simp [hdl]) hc1 hc2 (by omega) (fun h => absurd h h0) (by rw [harr]; simp [hdl]; omega) ⟨fun o ho => by rw [hfz]; simp only; omega, fun h => absurd rfl h, by rw [hfz]; simp only; omega⟩ (fun el he => by simp at he; obtain ⟨b, _, rfl⟩ := he; rfl) ?_
            intro i el j z hi hj
            rw [List.getElem?_map] at hi
            cases hb : s.data.toList[i]? with
            | none => rw [hb] at hi; cases hi
            | some b =>
              rw [hb] at hi
              injection hi with hi; subst hi
              cases j with
              | succ j => simp at hj
              | zero =>
                simp at hj
                subst hj
                have hil : i < s.data.size := by have := (List.getElem?_eq_some_iff.1 hb).1; simpa using this
                refine ⟨.int .u8 b.toNat, ?_, .int _ _⟩
                rw [Nat.mul_one, Nat.add_zero, harr, Array.getElem?_append_left (by simpa using hil)]
                rw [Array.getElem?_toList] at hb
                simp [hb]
        · cases hev
      · cases hev
    · rename_i e h1 h2
      split at hev
      · rename_i h3
        cases hf : frzC hv (r x) with
        | none => rw [hf] at hev; cases hev
        | some y =>
          rw [hf] at hev
          simp only [Option.bind_some] at hev
          split at hev
          · rename_i es hy
            cases hb : bytesOf es with
            | none => rw [hb] at hev; cases hev
            | some l =>
              rw [hb] at hev
              injection hev with hev; subst hev
              obtain ⟨Z1, u1, R1, r1⟩ := frzC_sim R hs hf (hρ x)
              rw [hy] at r1
              have hrun := bytes_sim (P := P) (w := w) R1.zok r1 hb
              have hform : ∃ A n c, a.eval x = .slice A n c := by
                generalize a.eval x = vx at r1
                cases r1 with
                | sl A n c k' b off U _ hl hc hm hk' hA hz hr hN => exact ⟨A, n, c, rfl⟩
              obtain ⟨A, n, c, hv'⟩ := hform
              refine wp_value (cv := .string ⟨l.toArray⟩) (w' := w) ?_ (hK _ w Z m ZUp.refl (MLe.refl m) (fun i hi => .inl hi) (by rw [addB_nil, flag_nil]; exact R) (.c (.str _)))
              rw [hv'] at hrun
              simp only [execOp, hv', convert, Sem.run_bind, run_und h1, run_und h2, Result.andThen_ok, run_und h3, hrun, Sem.run_pure]
          · cases hev
      · cases hev
    · rename_i e0 e h1 h2
      split at hev
      case h_2 => cases hev
      rename_i id n h3 hx
      split at hev
      case isFalse => cases hev
      rename_i hsd
      subst hsd
      split at hev
      case h_2 => cases hev
      rename_i es hes0
      split at hev
      case isFalse => cases hev
      rename_i hc
      injection hev with hev; subst hev
      obtain rfl : e0 = e := by
        rw [h1] at h2
        injection h2 with h2
        injection h2
      obtain ⟨g, c, w1, hva, hmi, hrun, R1⟩ := mark_sim (P := P) R (hs id _ hes0) (hx ▸ hρ x) hc.1 hc.2
      have hrun' : (execOp a.eval { dst := dst, op := .convert src src x, type := ty, pos := pos, after := aft, guard := gd }).run P w = .ok (.value (.slice (some ⟨g, 0, none⟩) n c)) w1 := by
        simp only [execOp, hva, convert, Sem.run_bind, run_und h1, Result.andThen_ok, run_und h3, beq_self_eq_true, hrun, Sem.run_pure]
      exact wp_value hrun' (hK _ w1 Z m ZUp.refl (MLe.refl m) (fun i hi => .inl hi) (by rw [addB_nil, flag_nil]; exact R1) (.row id n _ c hmi (fun _ => ⟨g, rfl⟩)))
    · cases hev
  · exact ev1_call_sim hcall hρ R hs hfr hev hlen hK
  · exact ev1_apd_sim hcall hρ R hs hfr hev hlen hK
  · cases hev
end
end Go.Proofs.YtomnbknaanlmaaaGreatDoor
