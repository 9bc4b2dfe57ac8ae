/- Operations of a region that are not ordered may be exchanged; so every order comes to the same. -/
import Derived.Test.YtomnbknaanlmaaaGreatDoorZ04
namespace Go.Proofs.YtomnbknaanlmaaaGreatDoor
open Go.RowKit
section
variable {P : Program} {call : HP} {nt : Nat} {ops : Array Oper} {an : Nat → Nat} {rb : Nat}
theorem st_ext {a b : St} (h1 : a.t = b.t) (h2 : a.h = b.h) (h3 : a.sh = b.sh) (h4 : a.nx = b.nx) (h5 : a.lr = b.lr) (h6 : a.lw = b.lw) (h7 : a.og = b.og) : a = b := by
  cases a; cases b
  simp only at h1 h2 h3 h4 h5 h6 h7
  subst h1 h2 h3 h4 h5 h6 h7
  rfl
/-- the logs of an operation that has not been run -/
def noLog (s : St) (i : Nat) : Prop := s.lr i = [] ∧ s.lw i = []
theorem logOk_iff {n j : Nat} {lg : Nat → List Nat} {a : List Nat} : logOk n an lg j a = true ↔ ∀ x ∈ a, ∀ q, q < n → x ∉ lg q ∨ ordB an q j = true := by
  unfold logOk
  simp only [List.all_eq_true, List.mem_range, Bool.or_eq_true, Bool.not_eq_true', List.contains_eq_mem, decide_eq_false_iff_not]
theorem logOk_other {n i j : Nat} {lg : Nat → List Nat} {a b : List Nat} (hi : lg i = []) (h : (∀ x ∈ a, x ∉ b) ∨ ordB an i j = true) : logOk n an (upd lg i b) j a = logOk n an lg j a := by
  rw [Bool.eq_iff_iff, logOk_iff, logOk_iff]
  constructor
  · intro g x hx q hq
    by_cases e : q = i
    · subst e; rw [hi]; exact .inl (by simp)
    · have := g x hx q hq; simpa [upd, e] using this
  · intro g x hx q hq
    by_cases e : q = i
    · subst e
      rcases h with h | h
      · exact .inl (by simpa [upd] using h x hx)
      · exact .inr h
    · have := g x hx q hq; simpa [upd, e] using this
theorem logOk_same {n i j : Nat} {lg : Nat → List Nat} {a b : List Nat} {x : Nat} (hxa : x ∈ a) (hxb : x ∈ b) (hi : i < n) (h : ordB an i j = false) : logOk n an (upd lg i b) j a = false := by
  rw [← Bool.not_eq_true, logOk_iff]
  intro g
  rcases g x hxa i hi with h1 | h1
  · exact h1 (by simpa [upd] using hxb)
  · rw [h] at h1; cases h1
theorem rho_af {x y : Oper} (hap : ∀ d, x.dst = some d → d ∉ y.looksAt ops) {i : Nat} {e : V × Hact} {s : St} : ∀ z ∈ y.op.operands, rho (afD call.io ops rb i x e s).t z = rho s.t z := rho_put (ops := ops) (o := y) hap
/-- what is written does not hang on the heap, or the heap is the same -/
theorem st_af {x y : Oper} (hap : ∀ d, x.dst = some d → d ∉ y.looksAt ops) {i : Nat} {e : V × Hact} {s : St} (hh : isIo call.io y.op = false ∨ (afD call.io ops rb i x e s).h = s.h) : stAdr call.io ops (afD call.io ops rb i x e s).h (rho (afD call.io ops rb i x e s).t) y.op = stAdr call.io ops s.h (rho s.t) y.op := by
  rw [(adr_congr (rho_af hap)).2]
  rcases hh with hh | hh
  · generalize (afD call.io ops rb i x e s).h = h1
    unfold stAdr
    split
    · rfl
    · rename_i he
      rw [he] at hh
      simp only [isIo] at hh
      rw [hh]; rfl
    · rename_i he
      rw [he] at hh
      simp only [isIo] at hh
      rw [hh]; rfl
    · rfl
    · rfl
  · rw [hh]
theorem lg_af {x y : Oper} (hap : ∀ d, x.dst = some d → d ∉ y.looksAt ops) {i j n : Nat} {e : V × Hact} {s : St} (hl : noLog s i) (hh : isIo call.io y.op = false ∨ (afD call.io ops rb i x e s).h = s.h)
    (h1 : ∀ z ∈ ldAdr (rho s.t) y.op, z ∉ stAdr call.io ops s.h (rho s.t) x.op) (h2 : ∀ z ∈ stAdr call.io ops s.h (rho s.t) y.op, z ∉ ldAdr (rho s.t) x.op) : lgD call.io ops n an j y (afD call.io ops rb i x e s) = lgD call.io ops n an j y s := by
  have hr := adr_congr (io := call.io) (ops := ops) (h := s.h) (rho_af (call := call) (rb := rb) (i := i) (e := e) (s := s) hap)
  unfold lgD
  rw [hr.1, st_af hap hh]
  show (logOk n an (upd s.lw i (stAdr call.io ops s.h (rho s.t) x.op)) j (ldAdr (rho s.t) y.op) && logOk n an (upd s.lr i (ldAdr (rho s.t) x.op)) j (stAdr call.io ops s.h (rho s.t) y.op)) = _
  rw [logOk_other hl.2 (.inl h1), logOk_other hl.1 (.inl h2)]
theorem evD_af {x y : Oper} (hap : ∀ d, x.dst = some d → d ∉ y.looksAt ops) {i : Nat} {e : V × Hact} {s : St} {hv : Nat → Option B} {base : Nat} (hl : ∀ q, x.dst = some q → q ∉ call.lv base) :
    evD P call nt ops hv base y (afD call.io ops rb i x e s) = evD P call nt ops hv base y { s with h := (afD call.io ops rb i x e s).h, sh := (afD call.io ops rb i x e s).sh } := by
  have := evD_t (P := P) (call := call) (nt := nt) (ops := ops) (hv := hv) (base := base) (o := y) (s := { s with h := (afD call.io ops rb i x e s).h, sh := (afD call.io ops rb i x e s).sh }) (d := x.dst) (v := e.1) (lr := (afD call.io ops rb i x e s).lr) (lw := (afD call.io ops rb i x e s).lw) hap hl
  rw [← this]
  rfl
theorem af_h {x : Oper} {i : Nat} {v : V} {bs : List B} {fl : List Nat} {s : St} : (afD call.io ops rb i x (v, .inl (bs, fl)) s).h = addB s.h (rb + 8 * i) bs ∧ (afD call.io ops rb i x (v, .inl (bs, fl)) s).sh = flag s.sh fl := ⟨rfl, rfl⟩
/-- both read or reckon -/
theorem comm_11 {i j : Nat} {x y : Oper} {s : St} (hij : i ≠ j) (hb1 : (an j).testBit i = false) (hb2 : (an i).testBit j = false) (hap : x.apart ops y = true) (kx : kindB P call.io ops x.op = 0 ∨ kindB P call.io ops x.op = 1) (ky : kindB P call.io ops y.op = 0 ∨ kindB P call.io ops y.op = 1) (hlx : ∀ q b, x.dst = some q → q ∉ call.lv b) (hly : ∀ q b, y.dst = some q → q ∉ call.lv b) (l1 : noLog s i) (l2 : noLog s j) :
    (stepD P call nt ops an rb i x s).bind (stepD P call nt ops an rb j y) = (stepD P call nt ops an rb j y s).bind (stepD P call nt ops an rb i x) := by
  obtain ⟨a1, a2, a3⟩ := apart_sp hap
  have sx : ∀ h r, stAdr call.io ops h r x.op = [] := fun h r => adr_none.2 (kx.elim (fun h => (kind0_plain h).2) kind1_plain)
  have sy : ∀ h r, stAdr call.io ops h r y.op = [] := fun h r => adr_none.2 (ky.elim (fun h => (kind0_plain h).2) kind1_plain)
  have act : ∀ {hv base o e}, (kindB P call.io ops o.op = 0 ∨ kindB P call.io ops o.op = 1) → evD P call nt ops hv base o s = some e → ∃ v bs fl, e = (v, .inl (bs, fl)) ∧ bs.length ≤ 8 := by
    intro hv base o e hk he
    rcases evD_act he with ⟨bs, fl, h1, h2, _⟩ | ⟨z, _, h0, h1⟩
    · obtain ⟨v, q⟩ := e; simp only at h1; subst h1; exact ⟨v, bs, fl, rfl, h2⟩
    · rcases hk with h | h
      · exact absurd h h0
      · exact absurd h h1
  refine comm_of ?_ ?_ ?_
  · intro e he _
    obtain ⟨v, bs, fl, rfl, hl⟩ := act kx he
    refine ⟨lg_af a1 l1 (.inl (kind_io ky)) (by rw [sx]; simp) (by rw [sy]; simp), ?_⟩
    rw [evD_af a1 (fun q h => hlx q _ h), evD_heap ky, af_h.1, vis_addB hl hb1]
  · intro e he _
    obtain ⟨v, bs, fl, rfl, hl⟩ := act ky he
    refine ⟨lg_af a2 l2 (.inl (kind_io kx)) (by rw [sy]; simp) (by rw [sx]; simp), ?_⟩
    rw [evD_af a2 (fun q h => hly q _ h), evD_heap kx, af_h.1, vis_addB hl hb2]
  · intro e f he hf
    obtain ⟨v, bs, fl, rfl, hl⟩ := act kx he
    obtain ⟨v', bs', fl', rfl, hl'⟩ := act ky hf
    have r1 := adr_congr (io := call.io) (ops := ops) (h := s.h) (rho_af (call := call) (rb := rb) (i := i) (e := (v, .inl (bs, fl))) (s := s) a1)
    have r2 := adr_congr (io := call.io) (ops := ops) (h := s.h) (rho_af (call := call) (rb := rb) (i := j) (e := (v', .inl (bs', fl'))) (s := s) a2)
    refine st_ext ?_ ?_ ?_ rfl ?_ ?_ rfl
    · exact putD_comm a3
    · exact addB_comm hl hl' (by omega)
    · exact flag_comm fl fl'
    · show upd (upd s.lr i _) j (ldAdr (rho (afD call.io ops rb i x (v, .inl (bs, fl)) s).t) y.op) = upd (upd s.lr j _) i (ldAdr (rho (afD call.io ops rb j y (v', .inl (bs', fl')) s).t) x.op)
      rw [r1.1, r2.1]
      exact upd_comm hij
    · show upd (upd s.lw i (stAdr call.io ops s.h (rho s.t) x.op)) j (stAdr call.io ops _ _ y.op) = upd (upd s.lw j (stAdr call.io ops s.h (rho s.t) y.op)) i (stAdr call.io ops _ _ x.op)
      simp only [sx, sy]
      exact upd_comm hij
/-- one reckons, the other writes -/
theorem comm_02 {i j : Nat} {x y : Oper} {s : St} (hij : i ≠ j) (hap : x.apart ops y = true) (kx : kindB P call.io ops x.op = 0) (_ky : kindB P call.io ops y.op ≠ 0 ∧ kindB P call.io ops y.op ≠ 1) (hlx : ∀ q b, x.dst = some q → q ∉ call.lv b) (hly : ∀ q b, y.dst = some q → q ∉ call.lv b) (l1 : noLog s i) (l2 : noLog s j) :
    (stepD P call nt ops an rb i x s).bind (stepD P call nt ops an rb j y) = (stepD P call nt ops an rb j y s).bind (stepD P call nt ops an rb i x) := by
  obtain ⟨a1, a2, a3⟩ := apart_sp hap
  have px := kind0_plain kx
  have sx : ∀ h r, stAdr call.io ops h r x.op = [] := fun h r => adr_none.2 px.2
  have lx : ∀ r, ldAdr r x.op = [] := fun r => (adr_none (io := call.io) (ops := ops) (h := s.h)).1 px.1
  have xio := kind_io (.inl kx)
  have actx : ∀ {hv base e}, evD P call nt ops hv base x s = some e → ∃ v, e = (v, .inl ([], [])) := by
    intro hv base e he
    rcases evD_act he with ⟨bs, fl, h1, _, h3, _⟩ | ⟨z, _, h0, _⟩
    · obtain ⟨rfl, rfl⟩ := h3 kx
      obtain ⟨v, q⟩ := e; simp only at h1; subst h1; exact ⟨v, rfl⟩
    · exact absurd kx h0
  refine comm_of ?_ ?_ ?_
  · intro e he _
    obtain ⟨v, rfl⟩ := actx he
    refine ⟨lg_af a1 l1 (.inr (by rw [af_h.1, addB_nil])) (by rw [sx]; simp) (by rw [lx]; simp), ?_⟩
    rw [evD_af a1 (fun q h => hlx q _ h), af_h.1, af_h.2, addB_nil, flag_nil]
  · intro e he _
    refine ⟨lg_af a2 l2 (.inl xio) (by rw [lx]; simp) (by rw [sx]; simp), ?_⟩
    rw [evD_af a2 (fun q h => hly q _ h), evD_heap (.inl kx)]
    exact evD_view (by omega)
  · intro e f he hf
    obtain ⟨v, rfl⟩ := actx he
    have r1 := adr_congr (io := call.io) (ops := ops) (h := s.h) (rho_af (call := call) (rb := rb) (i := i) (e := (v, .inl ([], []))) (s := s) a1)
    have r2 := adr_congr (io := call.io) (ops := ops) (h := s.h) (rho_af (call := call) (rb := rb) (i := j) (e := f) (s := s) a2)
    have hh : ∀ q : V × Hact, (apD (rb + 8 * j) y q (afD call.io ops rb i x (v, .inl ([], [])) s)).h = (apD (rb + 8 * i) x (v, .inl ([], [])) (afD call.io ops rb j y q s)).h ∧ (apD (rb + 8 * j) y q (afD call.io ops rb i x (v, .inl ([], [])) s)).sh = (apD (rb + 8 * i) x (v, .inl ([], [])) (afD call.io ops rb j y q s)).sh := by
      rintro ⟨v', z | z⟩
      · refine ⟨?_, ?_⟩
        · show addB (addB s.h (rb + 8 * i) []) (rb + 8 * j) z.1 = addB (addB s.h (rb + 8 * j) z.1) (rb + 8 * i) []
          rw [addB_nil, addB_nil]
        · show flag (flag s.sh []) z.2 = flag (flag s.sh z.2) []
          rw [flag_nil, flag_nil]
      · refine ⟨?_, ?_⟩
        · show z.1 = addB z.1 (rb + 8 * i) []
          rw [addB_nil]
        · show z.2 = flag z.2 []
          rw [flag_nil]
    refine st_ext ?_ ?_ ?_ rfl ?_ ?_ rfl
    · exact putD_comm a3
    · exact (hh f).1
    · exact (hh f).2
    · show upd (upd s.lr i _) j (ldAdr (rho (afD call.io ops rb i x (v, .inl ([], [])) s).t) y.op) = upd (upd s.lr j _) i (ldAdr (rho (afD call.io ops rb j y f s).t) x.op)
      rw [r1.1, r2.1]
      exact upd_comm hij
    · show upd (upd s.lw i (stAdr call.io ops s.h (rho s.t) x.op)) j (stAdr call.io ops (afD call.io ops rb i x (v, .inl ([], [])) s).h (rho (afD call.io ops rb i x (v, .inl ([], [])) s).t) y.op) = upd (upd s.lw j (stAdr call.io ops s.h (rho s.t) y.op)) i (stAdr call.io ops _ _ x.op)
      rw [st_af a1 (.inr (by rw [af_h.1, addB_nil])), sx, sx]
      exact upd_comm hij
theorem loadV_congr {hv hv' : Nat → Option B} {t : TypeId} {A : V} (h : ∀ q ∈ adrOf A, hv q = hv' q) : loadV P hv t A = loadV P hv' t A := by
  cases A <;> simp only [adrOf] at h <;> simp only [loadV]
  case ptr q off => rw [h q (by simp)]
  case rptr q k i off => rw [h q (by simp)]
/-- a store changes its block alone -/
theorem storeV_far {h0 : Nat → Option B} {sh : Nat → Bool} {t : TypeId} {A X : V} {z : (Nat → Option B) × (Nat → Bool)} (h3 : storeV P h0 sh t A X = some z) : ∀ q, q ∉ adrOf A → z.1 q = h0 q := by
  have far : ∀ {id : Nat} {b : Option B} {q : Nat}, q ∉ [id] → upd h0 id b q = h0 q := fun {id b q} hq => by
    have : q ≠ id := by simpa using hq
    simp [upd, this]
  intro q hq
  unfold storeV at h3
  cases hcl : X.cells with
  | none => rw [hcl] at h3; cases h3
  | some vs =>
    rw [hcl] at h3
    simp only [Option.bind_some] at h3
    split at h3
    · cases h3
    split at h3
    · rename_i id off
      split at h3
      · split at h3
        · injection h3 with h3; subst h3; exact far hq
        · cases h3
      · cases h3
    · rename_i id k q' off
      split at h3
      · unfold storeT at h3
        split at h3
        · split at h3
          · injection h3 with h3; subst h3; exact far hq
          · cases h3
        · split at h3
          case isFalse => cases h3
          split at h3
          case isFalse => injection h3 with h3; subst h3; exact far hq
          · cases hf : frzC h0 _ with
            | none => rw [hf] at h3; cases h3
            | some yy =>
              rw [hf] at h3
              simp only [Option.bind_some] at h3
              split at h3
              · cases h3
              · injection h3 with h3; subst h3; exact far hq
        · cases h3
      split at h3
      · rename_i es hes
        split at h3
        · cases h3
        cases hq' : es[q']? with
        | none => rw [hq'] at h3; cases h3
        | some el =>
          rw [hq'] at h3
          simp only [Option.bind_some] at h3
          split at h3
          · cases hf : frzL h0 vs with
            | none => rw [hf] at h3; cases h3
            | some yy =>
              rw [hf] at h3
              simp only [Option.bind_some] at h3
              split at h3
              · cases h3
              · injection h3 with h3; subst h3; exact far hq
          · cases h3
      · cases h3
    · cases h3
/-- a call on the caller's heap changes what it was handed alone -/
theorem heapD_far {g : List V → St → Option (V × St)} {args : List V} {N : Nat} {lv : List Nat} {base : Nat} {s : St} {y : V × (Nat → Option B) × (Nat → Bool)} (hy : heapD g args N lv base s = some y) : ∀ q, q ∉ reach s.h args → ¬ (base ≤ q ∧ q < base + 8) → y.2.1 q = s.h q := by
  intro q h1 h2
  unfold heapD at hy
  cases hx : g args _ with
  | none => rw [hx] at hy; cases hy
  | some x =>
    rw [hx] at hy
    simp only [Option.bind_some] at hy
    split at hy
    · rename_i hc
      injection hy with hy; subst hy
      simp only [bkH]
      rw [if_neg (fun h => h2 ⟨h.1, by omega⟩), if_neg h1]
    · cases hy
theorem apdV_far {h : Nat → Option B} {sh : Nat → Bool} {base : Nat} {e : TypeId} {s : V} {y : Option (C × List Nat)} {z : V × (Nat → Option B) × (Nat → Bool)} (hz : apdV P h sh base e s y = some z) (q : Nat) (h1 : q ∉ rowId s) (h2 : ¬ (base ≤ q ∧ q < base + 8)) : z.2.1 q = h q := by
  unfold apdV at hz
  cases hi : P.info? e with
  | none => rw [hi] at hz; cases hz
  | some i =>
  rw [hi] at hz
  simp only [Option.bind_some] at hz
  split at hz
  case isFalse => cases hz
  cases y with
  | none => cases hz
  | some y =>
  simp only [Option.bind_some] at hz
  split at hz
  case h_2 => cases hz
  rename_i xs _
  cases hg : tgtV h s xs.isEmpty with
  | none => rw [hg] at hz; cases hz
  | some g =>
  rw [hg] at hz
  simp only [Option.bind_some] at hz
  split at hz
  case isFalse => cases hz
  injection hz with hz; subst hz
  have hb : q ≠ base := by omega
  simp only [upd, hb, if_false]
  unfold tgtV at hg
  split at hg
  · rename_i id n
    split at hg
    · injection hg with hg; subst hg
      simp only [dropO, upd]
      rw [if_neg (by intro e; subst e; exact h1 (by simp [rowId]))]
    · cases hg
  · injection hg with hg; subst hg; rfl
  · injection hg with hg; subst hg; rfl
  · cases hg
/-- a load and an operation that writes -/
theorem comm_ls {i j : Nat} {x y : Oper} {s : St} (hi : i < ops.size) (hj : j < ops.size) (hij : i ≠ j) (hord : ordB an i j = false) (hap : x.apart ops y = true) (kx : isLd x.op = true) (ky : isWr call.io ops y.op = true) (hlx : ∀ q b, x.dst = some q → q ∉ call.lv b) (hly : ∀ q b, y.dst = some q → q ∉ call.lv b) (l1 : noLog s i) (l2 : noLog s j) :
    (stepD P call nt ops an rb i x s).bind (stepD P call nt ops an rb j y) = (stepD P call nt ops an rb j y s).bind (stepD P call nt ops an rb i x) := by
  obtain ⟨a1, a2, a3⟩ := apart_sp hap
  obtain ⟨kx1, t, ax, hx⟩ := kind_ld (P := P) (io := call.io) (ops := ops) kx
  have ky2 := kind_wr (P := P) (ops := ops) ky
  have xio := kind_io (.inr kx1)
  have yl : isLd y.op = false := by
    cases hl : isLd y.op with
    | false => rfl
    | true => have := (kind_ld (P := P) (io := call.io) (ops := ops) hl).1; rw [ky2] at this; cases this
  have sx : ∀ h r, stAdr call.io ops h r x.op = [] := fun h r => adr_none.2 (kind1_plain kx1)
  have ly : ∀ r, ldAdr r y.op = [] := fun r => (adr_none (io := call.io) (ops := ops) (h := s.h)).1 yl
  have lx : ldAdr (rho s.t) x.op = adrOf (rho s.t ax) := by rw [hx]; rfl
  have hb0 := hord
  unfold ordB at hb0
  simp only [Bool.or_eq_false_iff, beq_eq_false_iff_ne] at hb0
  have hordj : ordB an j i = false := by
    unfold ordB
    simp only [Bool.or_eq_false_iff, beq_eq_false_iff_ne]
    exact ⟨⟨hb0.1.2, hb0.1.1⟩, Ne.symm hb0.2⟩
  have actx : ∀ {hv base e}, evD P call nt ops hv base x s = some e → ∃ v, e = (v, .inl ([], [])) := by
    intro hv base e he
    rcases evD_act he with ⟨bs, fl, h1, _, _, h4⟩ | ⟨z, _, _, h0⟩
    · obtain ⟨rfl, rfl⟩ := h4 kx
      obtain ⟨v, q⟩ := e; simp only at h1; subst h1; exact ⟨v, rfl⟩
    · exact absurd kx1 h0
  by_cases hc : ∃ q, q ∈ ldAdr (rho s.t) x.op ∧ q ∈ stAdr call.io ops s.h (rho s.t) y.op
  · -- one block: both orders are refused
    obtain ⟨q, hq1, hq2⟩ := hc
    have n1 : (stepD P call nt ops an rb i x s).bind (stepD P call nt ops an rb j y) = none := by
      rw [stepD_eq]
      split
      · cases he : evD P call nt ops (visB s.h rb (an i)) (rb + 8 * i) x s with
        | none => rfl
        | some e =>
          obtain ⟨v, rfl⟩ := actx he
          simp only [Option.map_some, Option.bind_some]
          rw [stepD_eq, if_neg]
          have : logOk ops.size an (afD call.io ops rb i x (v, .inl ([], [])) s).lr j (stAdr call.io ops (afD call.io ops rb i x (v, .inl ([], [])) s).h (rho (afD call.io ops rb i x (v, .inl ([], [])) s).t) y.op) = false := by
            rw [st_af a1 (.inr (by rw [af_h.1, addB_nil]))]
            show logOk ops.size an (upd s.lr i (ldAdr (rho s.t) x.op)) j _ = false
            exact logOk_same hq2 hq1 hi hord
          simp [lgD, this]
      · rfl
    have n2 : (stepD P call nt ops an rb j y s).bind (stepD P call nt ops an rb i x) = none := by
      rw [stepD_eq]
      split
      · cases he : evD P call nt ops (visB s.h rb (an j)) (rb + 8 * j) y s with
        | none => rfl
        | some e =>
          simp only [Option.map_some, Option.bind_some]
          rw [stepD_eq, if_neg]
          have hr := adr_congr (io := call.io) (ops := ops) (h := s.h) (rho_af (call := call) (rb := rb) (i := j) (e := e) (s := s) a2)
          have : logOk ops.size an (afD call.io ops rb j y e s).lw i (ldAdr (rho (afD call.io ops rb j y e s).t) x.op) = false := by
            rw [hr.1]
            show logOk ops.size an (upd s.lw j (stAdr call.io ops s.h (rho s.t) y.op)) i _ = false
            exact logOk_same hq1 hq2 hj hordj
          simp [lgD, this]
      · rfl
    rw [n1, n2]
  · have hne1 : ∀ z ∈ ldAdr (rho s.t) x.op, z ∉ stAdr call.io ops s.h (rho s.t) y.op := fun z h1 h2 => hc ⟨z, h1, h2⟩
    have hne2 : ∀ z ∈ stAdr call.io ops s.h (rho s.t) y.op, z ∉ ldAdr (rho s.t) x.op := fun z h1 h2 => hc ⟨z, h2, h1⟩
    refine comm_of ?_ ?_ ?_
    · intro e he _
      obtain ⟨v, rfl⟩ := actx he
      refine ⟨lg_af a1 l1 (.inr (by rw [af_h.1, addB_nil])) (by rw [ly]; simp) hne2, ?_⟩
      rw [evD_af a1 (fun q h => hlx q _ h), af_h.1, af_h.2, addB_nil, flag_nil]
    · intro e he _
      refine ⟨lg_af a2 l2 (.inl xio) hne1 (by rw [sx]; simp), ?_⟩
      rw [evD_af a2 (fun q h => hly q _ h), evD_heap (.inr kx1)]
      -- what was written is another block
      have hh : ∀ q, q ∉ stAdr call.io ops s.h (rho s.t) y.op → ¬ (rb + 8 * j ≤ q ∧ q < rb + 8 * j + 8) → (afD call.io ops rb j y e s).h q = s.h q := by
        intro q hq1 hq2
        unfold evD at he
        split at he
        case isFalse => cases he
        cases hw : wantedV ops s.t y with
        | none => rw [hw] at he; cases he
        | some w =>
          rw [hw] at he
          simp only [Option.bind_some] at he
          cases w with
          | false =>
            simp only [Bool.false_eq_true, if_false] at he
            injection he with he; subst he
            rw [af_h.1, addB_nil]
          | true =>
            simp only [if_true, ky2] at he
            cases h2 : ev2H P call (rb + 8 * j) y.op s with
            | none => rw [h2] at he; cases he
            | some z =>
              rw [h2] at he
              injection he with he; subst he
              show z.2.1 q = s.h q
              unfold ev2H at h2
              cases hio : isIo call.io y.op with
              | true =>
                rw [hio, cond_true] at h2
                cases hz : ioOf P call.ch (rho s.t) y.op with
                | none => rw [hz] at h2; cases h2
                | some zz =>
                  rw [hz] at h2
                  simp only [Option.bind_some] at h2
                  obtain ⟨f, args, ats, ho, hf⟩ := isIo_call hio
                  refine heapD_far h2 q ?_ hq2
                  obtain ⟨fx, args', ats', fn, caps, g0, ho', hfx, _, _, _, has⟩ := ioOf_op hz
                  rw [ho] at ho' hq1
                  injection ho' with ho'
                  injection ho' with b1 b2 b3
                  injection b1 with b1
                  subst b1 b2 b3
                  rcases hf with ⟨f, rfl, hf⟩ | ⟨t, rfl, hf⟩
                  case inr =>
                    simp only [stAdr, hf, cond_true, hfx] at hq1
                    rw [has]
                    exact hq1
                  simp only [stAdr, hf, cond_true] at hq1
                  have hcaps : cAr g0 (args.toList.map (rho s.t)) caps = args.toList.map (rho s.t) := by
                    simp only [rho] at hfx
                    cases hb : Nat.blt f 1000000 with
                    | false => rw [hb] at hfx; cases hfx
                    | true =>
                      rw [hb, cond_true] at hfx
                      injection hfx with q1 q2
                      subst q1 q2
                      simp [cAr, hb]
                  rw [has, hcaps]
                  exact hq1
              | false =>
                rw [hio, cond_false] at h2
                have hst : isSt y.op = true ∨ isApd ops y.op = true := by unfold isWr at ky; rw [hio, Bool.or_false] at ky; simpa using ky
                rcases hst with hst | hst
                case inr =>
                  obtain ⟨args, ats, ho, hf⟩ := isApd_call hst
                  rw [ho] at h2 hq1 hf
                  simp only [stAdr, hf, cond_false] at hq1
                  simp only [ev2] at h2
                  split at h2
                  case h_2 => cases h2
                  rename_i t1 t2 asx ax _ hl
                  rw [hl] at hq1
                  simp only at hq1
                  split at h2
                  · exact apdV_far h2 q hq1 hq2
                  · rename_i e1 _ _
                    cases hb : isByteT P e1 with
                    | true => rw [hb] at h2; exact apdV_far h2 q hq1 hq2
                    | false => rw [hb] at h2; cases h2
                  · cases h2
                obtain ⟨t', ay, vy, hy⟩ : ∃ t a x, y.op = .store t a x := by
                  cases hyo : y.op <;> rw [hyo] at hst <;> simp [isSt] at hst
                  exact ⟨_, _, _, rfl⟩
                rw [hy] at h2 hq1
                simp only [ev2] at h2
                cases h3 : storeV P s.h s.sh t' (rho s.t ay) (rho s.t vy) with
                | none => rw [h3] at h2; cases h2
                | some z' =>
                  rw [h3] at h2
                  injection h2 with h2; subst h2
                  exact storeV_far h3 q hq1
      unfold evD
      simp only [kx1]
      have hl : ∀ base, ev1 P call.call (visB (afD call.io ops rb j y e s).h rb (an i)) (rho s.t) base x.op = ev1 P call.call (visB s.h rb (an i)) (rho s.t) base x.op := by
        intro base
        rw [hx]
        simp only [ev1]
        rw [loadV_congr (hv' := visB s.h rb (an i))]
        intro q hq
        simp only [visB]
        by_cases hr : rb + 8 * j ≤ q ∧ q < rb + 8 * j + 8
        · have : (q - rb) / 8 = j := by omega
          rw [this, hb0.1.2]
          have hlt : ¬ q < rb := by omega
          simp [hlt]
        · rw [hh q (hne1 q (by rw [lx]; exact hq)) hr]
      rw [hl]
    · intro e f he hf
      obtain ⟨v, rfl⟩ := actx he
      have r1 := adr_congr (io := call.io) (ops := ops) (h := s.h) (rho_af (call := call) (rb := rb) (i := i) (e := (v, .inl ([], []))) (s := s) a1)
      have r2 := adr_congr (io := call.io) (ops := ops) (h := s.h) (rho_af (call := call) (rb := rb) (i := j) (e := f) (s := s) a2)
      have hh : ∀ q : V × Hact, (apD (rb + 8 * j) y q (afD call.io ops rb i x (v, .inl ([], [])) s)).h = (apD (rb + 8 * i) x (v, .inl ([], [])) (afD call.io ops rb j y q s)).h ∧ (apD (rb + 8 * j) y q (afD call.io ops rb i x (v, .inl ([], [])) s)).sh = (apD (rb + 8 * i) x (v, .inl ([], [])) (afD call.io ops rb j y q s)).sh := by
        rintro ⟨v', z | z⟩
        · refine ⟨?_, ?_⟩
          · show addB (addB s.h (rb + 8 * i) []) (rb + 8 * j) z.1 = addB (addB s.h (rb + 8 * j) z.1) (rb + 8 * i) []
            rw [addB_nil, addB_nil]
          · show flag (flag s.sh []) z.2 = flag (flag s.sh z.2) []
            rw [flag_nil, flag_nil]
        · refine ⟨?_, ?_⟩
          · show z.1 = addB z.1 (rb + 8 * i) []
            rw [addB_nil]
          · show z.2 = flag z.2 []
            rw [flag_nil]
      refine st_ext ?_ ?_ ?_ rfl ?_ ?_ rfl
      · exact putD_comm a3
      · exact (hh f).1
      · exact (hh f).2
      · show upd (upd s.lr i _) j (ldAdr (rho (afD call.io ops rb i x (v, .inl ([], [])) s).t) y.op) = upd (upd s.lr j _) i (ldAdr (rho (afD call.io ops rb j y f s).t) x.op)
        rw [r1.1, r2.1]
        exact upd_comm hij
      · show upd (upd s.lw i (stAdr call.io ops s.h (rho s.t) x.op)) j (stAdr call.io ops (afD call.io ops rb i x (v, .inl ([], [])) s).h (rho (afD call.io ops rb i x (v, .inl ([], [])) s).t) y.op) = upd (upd s.lw j (stAdr call.io ops s.h (rho s.t) y.op)) i (stAdr call.io ops _ _ x.op)
        rw [st_af a1 (.inr (by rw [af_h.1, addB_nil])), sx, sx]
        exact upd_comm hij
theorem apart_symm {x y : Oper} (h : x.apart ops y = true) : y.apart ops x = true := by
  obtain ⟨h1, h2, h3⟩ := apart_sp h
  unfold Oper.apart
  cases hx : x.dst with
  | none =>
    cases hy : y.dst with
    | none => rfl
    | some e => have := h2 e hy; simp [this]
  | some d =>
    have a1 := h1 d hx
    have a3 := h3 d hx
    cases hy : y.dst with
    | none => simp [a1]
    | some e =>
      have := h2 e hy
      rw [hy] at a3
      simp [this, a1]
      intro e'
      exact a3 (by rw [e'])
/-- two operations that are not ordered may be exchanged -/
theorem comm {i j : Nat} {x y : Oper} {s : St} (hi : i < ops.size) (hj : j < ops.size) (hij : i ≠ j) (hord : ordB an i j = false) (hf : freeB P call.io ops x y = true) (hlx : ∀ q b, x.dst = some q → q ∉ call.lv b) (hly : ∀ q b, y.dst = some q → q ∉ call.lv b) (l1 : noLog s i) (l2 : noLog s j) :
    (stepD P call nt ops an rb i x s).bind (stepD P call nt ops an rb j y) = (stepD P call nt ops an rb j y s).bind (stepD P call nt ops an rb i x) := by
  have ho := hord
  unfold ordB at ho
  simp only [Bool.or_eq_false_iff, beq_eq_false_iff_ne] at ho
  have hordj : ordB an j i = false := by
    unfold ordB
    simp only [Bool.or_eq_false_iff, beq_eq_false_iff_ne]
    exact ⟨⟨ho.1.2, ho.1.1⟩, Ne.symm ho.2⟩
  unfold freeB at hf
  simp only [Bool.and_eq_true, Bool.or_eq_true, beq_iff_eq] at hf
  obtain ⟨hap, hk⟩ := hf
  have hap' := apart_symm hap
  rcases hk with (((hk | hk) | hk) | hk) | hk
  · by_cases h1 : kindB P call.io ops y.op = 0 ∨ kindB P call.io ops y.op = 1
    · exact comm_11 hij ho.1.1 ho.1.2 hap (.inl hk) h1 hlx hly l1 l2
    · exact comm_02 hij hap hk ⟨fun h => h1 (.inl h), fun h => h1 (.inr h)⟩ hlx hly l1 l2
  · by_cases h1 : kindB P call.io ops x.op = 0 ∨ kindB P call.io ops x.op = 1
    · exact comm_11 hij ho.1.1 ho.1.2 hap h1 (.inl hk) hlx hly l1 l2
    · exact (comm_02 (Ne.symm hij) hap' hk ⟨fun h => h1 (.inl h), fun h => h1 (.inr h)⟩ hly hlx l2 l1).symm
  · exact comm_11 hij ho.1.1 ho.1.2 hap (.inr hk.1) (.inr hk.2) hlx hly l1 l2
  · exact comm_ls hi hj hij hord hap hk.1 hk.2 hlx hly l1 l2
  · exact (comm_ls hj hi (Ne.symm hij) hordj hap' hk.2 hk.1 hly hlx l2 l1).symm
end
end Go.Proofs.YtomnbknaanlmaaaGreatDoor
namespace Go.Proofs.YtomnbknaanlmaaaGreatDoor
open Go.RowKit
section
variable {P : Program} {call : HP} {nt : Nat} {ops : Array Oper} {an : Nat → Nat} {rb : Nat}
theorem stepD_logs {i : Nat} {o : Oper} {s s' : St} (h : stepD P call nt ops an rb i o s = some s') : ∀ q, q ≠ i → (noLog s q ↔ noLog s' q) := by
  intro q hq
  rw [stepD_eq] at h
  split at h
  · cases he : evD P call nt ops (visB s.h rb (an i)) (rb + 8 * i) o s with
    | none => rw [he] at h; cases h
    | some e =>
      rw [he] at h
      injection h with h; subst h
      simp only [noLog, afD, upd, hq, if_false]
  · cases h
variable (P call nt ops an rb) in
def st1 (j : Nat) (s : St) : Option St := (ops[j]?).bind fun o => stepD P call nt ops an rb j o s
theorem runD_cons {j : Nat} {js : List Nat} {s : St} : runD P call nt ops an rb (j :: js) s = (st1 P call nt ops an rb j s).bind (runD P call nt ops an rb js) := rfl
theorem st1_logs {i : Nat} {s s' : St} (h : st1 P call nt ops an rb i s = some s') : ∀ q, q ≠ i → (noLog s q ↔ noLog s' q) := by
  unfold st1 at h
  cases ho : ops[i]? with
  | none => rw [ho] at h; cases h
  | some o => rw [ho] at h; exact stepD_logs h
theorem st1_comm {i j : Nat} {s : St} (hi : i < ops.size) (hj : j < ops.size) (hij : i ≠ j) (hord : ordB an i j = false) (hf : freeB P call.io ops (ops.getD i default) (ops.getD j default) = true) (hlv : ∀ o ∈ ops.toList, ∀ q b, o.dst = some q → q ∉ call.lv b) (l1 : noLog s i) (l2 : noLog s j) :
    (st1 P call nt ops an rb i s).bind (st1 P call nt ops an rb j) = (st1 P call nt ops an rb j s).bind (st1 P call nt ops an rb i) := by
  have ei : ops[i]? = some (ops.getD i default) := by simp [Array.getElem?_eq_getElem hi]
  have ej : ops[j]? = some (ops.getD j default) := by simp [Array.getElem?_eq_getElem hj]
  have f : ∀ k o, ops[k]? = some o → st1 P call nt ops an rb k = stepD P call nt ops an rb k o := fun k o ho => by funext s; simp [st1, ho]
  rw [f i _ ei, f j _ ej]
  exact comm hi hj hij hord hf (hlv _ (by simp [hi])) (hlv _ (by simp [hj])) l1 l2
/-- an operation that is ordered against none before it may come first -/
theorem front (hlv : ∀ o ∈ ops.toList, ∀ q b, o.dst = some q → q ∉ call.lv b) : ∀ (l1 : List Nat) {l2 : List Nat} {i : Nat} {s : St}, i < ops.size → (∀ j ∈ l1, j < ops.size ∧ j ≠ i ∧ ordB an j i = false ∧ freeB P call.io ops (ops.getD j default) (ops.getD i default) = true) → l1.Nodup → noLog s i → (∀ j ∈ l1, noLog s j) →
    runD P call nt ops an rb (l1 ++ i :: l2) s = runD P call nt ops an rb (i :: (l1 ++ l2)) s
  | [], _, _, _, _, _, _, _, _ => rfl
  | j :: l1, l2, i, s, hi, hc, hn, li, lj => by
    obtain ⟨hjs, hji, hord, hf⟩ := hc j (by simp)
    rw [List.cons_append, runD_cons, List.cons_append, runD_cons]
    have e1 : (st1 P call nt ops an rb j s).bind (runD P call nt ops an rb (l1 ++ i :: l2)) = (st1 P call nt ops an rb j s).bind (runD P call nt ops an rb (i :: (l1 ++ l2))) := by
      cases hs : st1 P call nt ops an rb j s with
      | none => rfl
      | some s' =>
        simp only [Option.bind_some]
        exact front hlv l1 hi (fun q hq => hc q (by simp [hq])) (List.nodup_cons.1 hn).2 ((st1_logs hs i (Ne.symm hji)).1 li) (fun q hq => (st1_logs hs q (fun e => (List.nodup_cons.1 hn).1 (e ▸ hq))).1 (lj q (by simp [hq])))
    rw [e1]
    have e2 : runD P call nt ops an rb (i :: (l1 ++ l2)) = fun s => (st1 P call nt ops an rb i s).bind (runD P call nt ops an rb (l1 ++ l2)) := rfl
    have e3 : runD P call nt ops an rb (j :: (l1 ++ l2)) = fun s => (st1 P call nt ops an rb j s).bind (runD P call nt ops an rb (l1 ++ l2)) := rfl
    rw [e2, e3, ← Option.bind_assoc, ← Option.bind_assoc, st1_comm hjs hi hji hord hf hlv (lj j (by simp)) li]
theorem mask_bit {acc : List Nat} {q : Nat} : ∀ (l : List Edge), (l.foldr (fun e s => if Region.binds .any e then (1 <<< e.on) ||| (acc.getD e.on 0 ||| s) else s) 0).testBit q = true ↔ ∃ e ∈ l, Region.binds .any e = true ∧ (e.on = q ∨ (acc.getD e.on 0).testBit q = true)
  | [] => by simp
  | e :: l => by
    simp only [List.foldr_cons, List.mem_cons, exists_eq_or_imp]
    have ih := mask_bit (acc := acc) (q := q) l
    generalize l.foldr (fun e s => if Region.binds .any e then (1 <<< e.on) ||| (acc.getD e.on 0 ||| s) else s) 0 = F at ih ⊢
    generalize acc.getD e.on 0 = G
    by_cases hb : Region.binds .any e = true
    · rw [if_pos hb, Nat.one_shiftLeft, Nat.testBit_or, Nat.testBit_or, Nat.testBit_two_pow, Bool.or_eq_true, Bool.or_eq_true, ih, decide_eq_true_eq]
      constructor
      · rintro (h | h | h)
        · exact .inl ⟨hb, .inl h⟩
        · exact .inl ⟨hb, .inr h⟩
        · exact .inr h
      · rintro (⟨_, h | h⟩ | h)
        · exact .inl h
        · exact .inr (.inl h)
        · exact .inr (.inr h)
    · rw [if_neg hb, ih]
      exact ⟨.inr, fun h => h.elim (fun h => absurd h.1 hb) id⟩
theorem befL_spec : ∀ (l : List Oper) (acc : List Nat), ∃ r, befL l acc = acc ++ r ∧ r.length = l.length ∧ ∀ k o, l[k]? = some o → r[k]? = some (maskOf o ((befL l acc).take (acc.length + k)))
  | [], acc => ⟨[], by simp [befL], rfl, by simp⟩
  | o :: l, acc => by
    obtain ⟨r, h1, h2, h3⟩ := befL_spec l (acc ++ [maskOf o acc])
    refine ⟨maskOf o acc :: r, by simp [befL, h1], by simp [h2], fun k o' ho => ?_⟩
    cases k with
    | zero =>
      simp at ho
      subst ho
      simp only [List.getElem?_cons_zero, befL, h1, Nat.add_zero, Option.some.injEq]
      rw [List.append_assoc, List.take_left]
    | succ k =>
      have := h3 k o' (by simpa using ho)
      simp only [List.length_append, List.length_cons, List.length_nil] at this
      simp only [List.getElem?_cons_succ, befL]
      rw [show acc.length + (k + 1) = acc.length + (0 + 1) + k from by omega]
      exact this
/-- what comes before an operation: those that it waits for, and what comes before them -/
theorem an_bit {j q : Nat} {o : Oper} (ho : ops[j]? = some o) (hlt : ∀ e ∈ o.after, Region.binds .any e = true → e.on < j) (h : (anOf ops j).testBit q = true) : ∃ e ∈ o.after, Region.binds .any e = true ∧ (e.on = q ∨ (anOf ops e.on).testBit q = true) := by
  obtain ⟨r, h1, h2, h3⟩ := befL_spec ops.toList []
  have hj := h3 j o (by simpa using ho)
  simp only [List.nil_append, List.length_nil, Nat.zero_add] at h1 hj
  have e1 : anOf ops j = maskOf o ((befL ops.toList []).take j) := by
    unfold anOf
    rw [h1] at hj ⊢
    rw [List.getD_eq_getElem?_getD, hj]
    rfl
  rw [e1] at h
  unfold maskOf at h
  rw [mask_bit] at h
  obtain ⟨e, he, hb, hq⟩ := h
  refine ⟨e, by simpa using he, hb, hq.imp id (fun hq => ?_)⟩
  have hlt' := hlt e (by simpa using he) hb
  unfold anOf
  rw [List.getD_eq_getElem?_getD, List.getElem?_take, if_pos hlt'] at hq
  rw [List.getD_eq_getElem?_getD]
  exact hq
def downC (ops : Array Oper) (listed : Array Bool) : Prop := ∀ j o, ops[j]? = some o → listed.getD j false = true → ∀ e ∈ o.after, Region.binds .any e = true → listed.getD e.on false = true
def edgesOk (ops : Array Oper) : Prop := ∀ (j : Nat) o, ops[j]? = some o → ∀ e ∈ o.after, Region.binds .any e = true → e.on < j
theorem anc_listed (he : edgesOk ops) {listed : Array Bool} (hd : downC ops listed) : ∀ (n j : Nat), j < n → j < ops.size → (∀ o, ops[j]? = some o → ∀ e ∈ o.after, Region.binds .any e = true → listed.getD e.on false = true) → ∀ q, (anOf ops j).testBit q = true → listed.getD q false = true
  | 0, j, hn, _, _, _, _ => by omega
  | n + 1, j, hn, hj, hp, q, hq => by
    have ho : ops[j]? = some (ops[j]) := Array.getElem?_eq_getElem hj
    obtain ⟨e, hem, hb, hq'⟩ := an_bit ho (he j _ ho) hq
    have hlt := he j _ ho e hem hb
    have hl := hp _ ho e hem hb
    rcases hq' with rfl | hq'
    · exact hl
    · exact anc_listed he hd n e.on (by omega) (by omega) (fun o ho e' he' hb' => hd e.on o ho hl e' he' hb') q hq'
theorem an_lt (he : edgesOk ops) : ∀ (n j : Nat), j < n → j < ops.size → ∀ q, (anOf ops j).testBit q = true → q < j
  | 0, j, hn, _, _, _ => by omega
  | n + 1, j, hn, hj, q, hq => by
    have ho : ops[j]? = some (ops[j]) := Array.getElem?_eq_getElem hj
    obtain ⟨e, hem, hb, hq'⟩ := an_bit ho (he j _ ho) hq
    have hlt := he j _ ho e hem hb
    rcases hq' with rfl | hq'
    · exact hlt
    · have := an_lt he n e.on (by omega) (by omega) q hq'; omega
def remL (n : Nat) (listed : Array Bool) : List Nat := (List.range n).filter fun i => !listed.getD i true
theorem mem_rem {n i : Nat} {listed : Array Bool} : i ∈ remL n listed ↔ i < n ∧ listed.getD i true = false := by simp [remL]
theorem rem_set {n i : Nat} {listed : Array Bool} {l1 l2 : List Nat} (hs : listed.size = n) (h : remL n listed = l1 ++ i :: l2) : remL n (listed.setIfInBounds i true) = l1 ++ l2 := by
  have hnd : (l1 ++ i :: l2).Nodup := by rw [← h]; exact List.Pairwise.filter _ List.nodup_range
  have hi : i ∈ remL n listed := by rw [h]; simp
  have e : remL n (listed.setIfInBounds i true) = (remL n listed).filter (fun j => j != i) := by
    unfold remL
    rw [List.filter_filter]
    apply List.filter_congr
    intro j hj
    by_cases hji : j = i
    · subst hji
      have : j < listed.size := by rw [hs]; simpa using hj
      simp [this]
    · simp [Array.getElem?_setIfInBounds_ne (Ne.symm hji), hji]
  rw [e, h, List.filter_append, List.filter_cons]
  have hn1 : ∀ j ∈ l1, (j != i) = true := fun j hj => by
    have := (List.nodup_append.1 hnd).2.2 j hj i (by simp)
    simpa using this
  have hn2 : ∀ j ∈ l2, (j != i) = true := fun j hj => by
    have := (List.nodup_cons.1 (List.nodup_append.1 hnd).2.1).1
    simp; intro e; subst e; exact this hj
  rw [List.filter_eq_self.2 hn1, List.filter_eq_self.2 hn2]
  simp
end
section
variable {P : Program} {Y : ZMap} {w0 : WB} {call : HP} {nt : Nat} {ops : Array Oper} {rb : Nat} {Q : Exit → Act → World → Prop}
theorem any_sim {D : List Deferred} {G : Nat → Option Value} (hcall : ∀ g args res, call.call g args = some res → CallOk P g args res) (hch : ∀ f g args s0 v s1, call.ch f = some g → g args s0 = some (v, s1) → HeapOk P f args s0 v s1) (hNN : rb + 8 * ops.size ≤ call.N) (hlv : ∀ o ∈ ops.toList, ∀ q b, o.dst = some q → q ∉ call.lv b) (he : edgesOk ops) (hfree : ∀ i j, i < j → j < ops.size → (anOf ops j).testBit i = true ∨ freeB P call.io ops (ops.getD i default) (ops.getD j default) = true) {s' : St} {Z0 : ZMap} {m0 : Nat → Option Value}
    (hQ : ∀ a' w' Z' m', ZUp w0 Z0 Z' → MLe m0 m' → (∀ i, m' i ≠ none → i < rb + 8 * ops.size) → FrS D G w0 Z' Y m' nt s' a' w' → Q .normal a' w') :
    ∀ (fuel : Nat) (listed : Array Bool) {Z : ZMap} {m : Nat → Option Value} {s : St} {a : Act} {w : World}, listed.size = ops.size → (remL ops.size listed).length = fuel → downC ops listed → FrS D G w0 Z Y m nt s a w → ZUp w0 Z0 Z → MLe m0 m → (∀ i, m i ≠ none → i < rb ∨ ∃ j, j < ops.size ∧ listed.getD j true = true ∧ rb + 8 * j ≤ i ∧ i < rb + 8 * j + 8) →
      (∀ i ∈ remL ops.size listed, noLog s i) → runD P call nt ops (anOf ops) rb (remL ops.size listed) s = some s' → wpAny P .any ops Q fuel listed a w := by
  intro fuel
  induction fuel with
  | zero =>
    intro listed Z m s a w hs hl hd F hz hm hu hn hr
    have h0 : remL ops.size listed = [] := List.eq_nil_of_length_eq_zero hl
    rw [h0] at hr
    injection hr with hr; subst hr
    refine ⟨?_, hQ a w Z m hz hm (fun i hi => ?_) F⟩
    · rw [List.eq_nil_iff_forall_not_mem]
      intro i hi
      obtain ⟨hl', o, ho, _⟩ := mem_ready.1 hi
      have : i ∈ remL ops.size listed := mem_rem.2 ⟨(Array.getElem?_eq_some_iff.1 ho).1, hl'⟩
      rw [h0] at this; cases this
    · rcases hu i hi with h | ⟨j, hj, _, h1, h2⟩ <;> omega
  | succ fuel ih =>
    intro listed Z m s a w hs hl hd F hz hm hu hn hr
    refine ⟨fun h0 => ?_, fun i hi => ?_⟩
    · -- something is ready
      exfalso
      cases hrem : remL ops.size listed with
      | nil => rw [hrem] at hl; cases hl
      | cons i0 rest =>
        have hmem : i0 ∈ remL ops.size listed := by rw [hrem]; simp
        obtain ⟨hi0, hl0⟩ := mem_rem.1 hmem
        have hmin : ∀ j, j < i0 → listed.getD j false = true := by
          intro j hj
          cases hc : listed.getD j true with
          | true =>
            have hjs : j < listed.size := by omega
            simpa [hjs] using hc
          | false =>
            have hjm : j ∈ remL ops.size listed := mem_rem.2 ⟨by omega, hc⟩
            rw [hrem] at hjm
            have hp : (i0 :: rest).Pairwise (· < ·) := by rw [← hrem]; exact List.Pairwise.filter _ List.pairwise_lt_range
            rcases List.mem_cons.1 hjm with h | h
            · omega
            · have := (List.pairwise_cons.1 hp).1 j h; omega
        have ho : ops[i0]? = some (ops[i0]) := Array.getElem?_eq_getElem hi0
        have : i0 ∈ Region.ready .any ops listed := mem_ready.2 ⟨hl0, _, ho, fun e hem hb => hmin _ (he i0 _ ho e hem hb)⟩
        rw [h0] at this; cases this
    · obtain ⟨hl', o, ho, hpre⟩ := mem_ready.1 hi
      have his : i < ops.size := (Array.getElem?_eq_some_iff.1 ho).1
      have hmem : i ∈ remL ops.size listed := mem_rem.2 ⟨his, hl'⟩
      obtain ⟨l1, l2, hsplit⟩ := List.append_of_mem hmem
      have hp : (l1 ++ i :: l2).Pairwise (· < ·) := by rw [← hsplit]; exact List.Pairwise.filter _ List.pairwise_lt_range
      have hnd : (l1 ++ i :: l2).Nodup := by rw [← hsplit]; exact List.Pairwise.filter _ List.nodup_range
      have hl1 : ∀ j ∈ l1, j < ops.size ∧ j ≠ i ∧ ordB (anOf ops) j i = false ∧ freeB P call.io ops (ops.getD j default) (ops.getD i default) = true := by
        intro j hj
        have hlt : j < i := (List.pairwise_append.1 hp).2.2 j hj i (by simp)
        have hjm : j ∈ remL ops.size listed := by rw [hsplit]; simp [hj]
        have hjl := (mem_rem.1 hjm).2
        have hb1 : (anOf ops i).testBit j = false := by
          cases hb : (anOf ops i).testBit j with
          | false => rfl
          | true =>
            have := anc_listed he hd (i + 1) i (by omega) his (fun o' ho' e hem hbb => by rw [ho] at ho'; injection ho' with ho'; subst ho'; exact hpre e hem hbb) j hb
            have hjs : j < listed.size := by omega
            simp [hjs] at this hjl
            rw [this] at hjl; cases hjl
        have hb2 : (anOf ops j).testBit i = false := by
          cases hb : (anOf ops j).testBit i with
          | false => rfl
          | true => have := an_lt he (j + 1) j (by omega) (by omega) i hb; omega
        refine ⟨by omega, by omega, ?_, ?_⟩
        · unfold ordB
          rw [hb1, hb2]
          simp
          omega
        · rcases hfree j i hlt his with h | h
          · rw [hb1] at h; cases h
          · exact h
      have hr' := hr
      rw [hsplit, front hlv l1 his hl1 (List.nodup_append.1 hnd).1 (hn i hmem) (fun j hj => hn j (by rw [hsplit]; simp [hj]))] at hr'
      rw [runD_cons] at hr'
      cases hst : st1 P call nt ops (anOf ops) rb i s with
      | none => rw [hst] at hr'; cases hr'
      | some s1 =>
        rw [hst] at hr'
        simp only [Option.bind_some] at hr'
        have hst' : stepD P call nt ops (anOf ops) rb i o s = some s1 := by simpa [st1, ho] using hst
        have hlogs := stepD_logs hst'
        unfold stepD at hst'
        split at hst'
        case isFalse => cases hst'
        cases hop : opD P call nt ops (visB s.h rb (anOf ops i)) (rb + 8 * i) o s with
        | none => rw [hop] at hst'; cases hst'
        | some s2 =>
          rw [hop] at hst'
          injection hst' with hst'
          have hfr : ∀ q, rb + 8 * i ≤ q → q < rb + 8 * i + 8 → m q = none ∧ s.h q = none := fun q h1 h2 => by
            have hmq : m q = none := by
              cases hc : m q with
              | none => rfl
              | some v =>
                rcases hu q (by rw [hc]; simp) with h | ⟨j, _, hjl, h3, h4⟩
                · omega
                · have : j = i := by omega
                  subst this
                  rw [hl'] at hjl; cases hjl
            refine ⟨hmq, ?_⟩
            cases hc : s.h q with
            | none => rfl
            | some b => exact absurd hmq (F.rel.m_of_h (by rw [hc]; simp))
          have hset := rem_set hs hsplit
          unfold wpOp
          rw [ho]
          simp only
          have key := opD_sim (K := wpAny P .any ops Q fuel (listed.setIfInBounds i true)) (Q := Q) hcall (fun _ => hch) (fun _ q hq => by rcases hu q hq with h | ⟨j, hj, _, h1, h2⟩ <;> omega) F (hv := visB s.h rb (anOf ops i)) (fun id b hb => by simp only [visB] at hb; split at hb; (exact hb); (cases hb)) hfr hop (fun a' w' Z' m' u1 u2 u3 F' => by
            refine ih (listed.setIfInBounds i true) (s := s1) (by simp [hs]) (by rw [hset]; have := hl; rw [hsplit] at this; simp at this ⊢; omega) ?_ ?_ (hz.trans u1) (hm.trans u2) ?_ ?_ (by rw [hset]; exact hr')
            · intro j o' ho' hlj e hem hb
              by_cases hji : j = i
              · subst hji
                rw [ho] at ho'
                injection ho' with ho'; subst ho'
                exact getD_set_true (hpre e hem hb)
              · rw [getD_set_ne false (Ne.symm hji)] at hlj
                exact getD_set_true (hd j o' ho' hlj e hem hb)
            · rw [← hst']
              exact ⟨F'.fr, F'.rel, F'.og, F'.df⟩
            · intro q hq
              rcases u3 q hq with h | h
              · rcases hu q h with h | ⟨j, h1, h2, h3, h4⟩
                · exact .inl h
                · refine .inr ⟨j, h1, ?_, h3, h4⟩
                  by_cases hji : j = i
                  · subst hji; rw [hl'] at h2; cases h2
                  · rw [getD_set_ne true (Ne.symm hji)]; exact h2
              · exact .inr ⟨i, his, by simp [hs, his], by omega, by omega⟩
            · intro q hq
              rw [hset] at hq
              have hqi : q ≠ i := by
                intro e; subst e
                rcases List.mem_append.1 hq with h | h
                · exact (List.nodup_append.1 hnd).2.2 q h q (by simp) rfl
                · exact (List.nodup_cons.1 (List.nodup_append.1 hnd).2.1).1 h
              exact (hlogs q hqi).1 (hn q (by rw [hsplit]; rcases List.mem_append.1 hq with h | h <;> simp [h])))
          split at key
          · rename_i hw; rw [if_pos hw]; exact .inl key
          · rename_i hw; rw [if_neg hw]; exact key
theorem drawOk_spec {io : FuncId → Bool} {lv : Nat → List Nat} (h : drawOk P io lv ops = true) : edgesOk ops ∧ ∀ i j, i < j → j < ops.size → (anOf ops j).testBit i = true ∨ freeB P io ops (ops.getD i default) (ops.getD j default) = true := by
  unfold drawOk at h
  rw [Bool.and_eq_true] at h
  replace h := h.1
  simp only [Bool.and_eq_true, List.all_eq_true, List.mem_range, Bool.or_eq_true] at h
  refine ⟨fun j o ho e he hb => ?_, fun i j hij hj => (h.2 j hj).2 i hij⟩
  have hj : j < ops.size := (Array.getElem?_eq_some_iff.1 ho).1
  have hd : ops.getD j default = o := by
    have := (Array.getElem?_eq_some_iff.1 ho).2
    simp [hj, this]
  have := (h.2 j hj).1
  rw [hd] at this
  have := this e (by simpa using he)
  simpa [hb] using this
/-- a region that draws its order -/
theorem lvD_spec {io : FuncId → Bool} {lv : Nat → List Nat} (h : drawOk P io lv ops = true) : ∀ o ∈ ops.toList, ∀ q b, o.dst = some q → q ∉ lvD io lv ops rb b := by
  intro o ho q b hq hm
  unfold drawOk at h
  rw [Bool.and_eq_true] at h
  have h2 := h.2
  by_cases hj : (b - rb) / 8 < ops.size
  · have h3 := List.all_eq_true.1 h2 ((b - rb) / 8) (List.mem_range.2 hj)
    have e : lvD io lv ops 0 (8 * ((b - rb) / 8)) = lvD io lv ops rb b := by
      unfold lvD
      simp only [Nat.sub_zero, Nat.mul_div_cancel_left _ (show 0 < 8 by omega)]
    rw [e] at h3
    have h4 := List.all_eq_true.1 (List.all_eq_true.1 h3 q hm) o ho
    rw [hq] at h4
    simp at h4
  · unfold lvD at hm
    rw [show ops.getD ((b - rb) / 8) default = default by simp [hj]] at hm
    have : isIo io (default : Oper).op = false := rfl
    rw [this] at hm
    cases hm
theorem draw_sim {D : List Deferred} {G : Nat → Option Value} (hmo : P.follows .mixedOrders = true) {cl : FuncId → List V → Option (V × List B)} {io : FuncId → Bool} {ch : FuncId → Option (List V → St → Option (V × St))} {lv : Nat → List Nat} (hcall : ∀ g args res, cl g args = some res → CallOk P g args res) (hch : ∀ f g args s0 v s1, ch f = some g → g args s0 = some (v, s1) → HeapOk P f args s0 v s1) {id : Nat} {Z : ZMap} {m : Nat → Option Value} {s s' : St} {a : Act} {w : World} (F : FrS D G w0 Z Y m nt s a w) (hu : ∀ i, m i ≠ none → i < s.nx) (hd : drawOk P io lv ops = true)
    (hr : runD P ⟨cl, io, ch, lvD io lv ops s.nx, s.nx + 8 * ops.size⟩ nt ops (anOf ops) s.nx (List.range ops.size) { s with lr := fun _ => [], lw := fun _ => [] } = some s')
    (hQ : ∀ a' w' Z' m', ZUp w0 Z Z' → MLe m m' → (∀ i, m' i ≠ none → i < s.nx + 8 * ops.size) → FrS D G w0 Z' Y m' nt s' a' w' → Q .normal a' w') : (Code.region id ops true).wp P Q a w := by
  obtain ⟨h1, h2⟩ := drawOk_spec hd
  have hrem : remL ops.size (Array.replicate ops.size false) = List.range ops.size := by
    unfold remL
    rw [List.filter_eq_self]
    intro i hi
    have : i < ops.size := by simpa using hi
    simp [this]
  refine wp_region_any hmo ?_
  have F' : FrS D G w0 Z Y m nt { s with lr := fun _ => [], lw := fun _ => [] } a { w with drawn := w.drawn + 1 } := ⟨F.fr, F.rel.later (Bel.refl w).drew, F.og, F.df⟩
  exact any_sim (call := ⟨cl, io, ch, lvD io lv ops s.nx, s.nx + 8 * ops.size⟩) hcall hch (Nat.le_refl _) (lvD_spec hd) h1 h2 hQ ops.size (Array.replicate ops.size false) (by simp) (by rw [hrem]; simp) (fun j o _ hl => by simp [Array.getElem?_replicate] at hl; split at hl <;> simp at hl) F' ZUp.refl (MLe.refl m) (fun i hi => .inl (hu i hi)) (fun i _ => ⟨rfl, rfl⟩) (by rw [hrem]; exact hr)
end
end Go.Proofs.YtomnbknaanlmaaaGreatDoor
namespace Go.Proofs.YtomnbknaanlmaaaGreatDoor
open Go.RowKit
section
variable {P : Program} {Z Y : ZMap} {m m' : Nat → Option Value} {w0 : WB} {w w' : World} {h hv : Nat → Option B} {sh : Nat → Bool}
/-- all numbers from nid on stand for nil -/
def nilM (nid : Nat) (m : Nat → Option Value) : Nat → Option Value := fun id => if id < nid then m id else some (.slice none 0 0)
theorem nilM_le {nid : Nat} (hu : ∀ i, m i ≠ none → i < nid) : MLe m (nilM nid m) := fun i v hi => by
  simp only [nilM]; rw [if_pos (hu i (by rw [hi]; simp))]; exact hi
theorem nilC_rep {nid q : Nat} (hu : ∀ i, m i ≠ none → i < nid) (hq : nid ≤ q) {v : Value} {x : V} (h : Rep Z Y m v x) : Rep Z Y (nilM nid m) v (nilC q x) := by
  have h' := h.mono (ZLe.refl Z) (nilM_le hu)
  unfold nilC
  split
  · cases h with | c h =>
    cases h
    exact .row q 0 none 0 (by simp [nilM]; omega) (by simp)
  · cases h with | c h =>
    cases h with
    | zs A => exact .row0 q A (by simp [nilM]; omega)
  · exact h'
theorem nilL_get {nid : Nat} (hu : ∀ i, m i ≠ none → i < nid) : ∀ (cs : List V) (q : Nat), nid ≤ q → (nilL q cs).length = cs.length ∧ ∀ (i : Nat) (u : Value) x y, cs[i]? = some y → (nilL q cs)[i]? = some x → Rep Z Y m u y → Rep Z Y (nilM nid m) u x
  | [], q, _ => ⟨rfl, by simp⟩
  | c :: cs, q, hq => by
    obtain ⟨h1, h2⟩ := nilL_get hu cs (q + 1) (by omega)
    refine ⟨by simp [nilL, h1], fun i u x y hy hx r => ?_⟩
    cases i with
    | zero => simp [nilL] at hx hy; subst hx hy; exact nilC_rep hu hq r
    | succ i => exact h2 i u x y (by simpa using hy) (by simpa [nilL] using hx) r
theorem nilL_rep {nid q : Nat} (hu : ∀ i, m i ≠ none → i < nid) (hq : nid ≤ q) {cs : List V} {vs : Array Value} (h : Rep Z Y m (.agg vs) (.agg cs)) : Rep Z Y (nilM nid m) (.agg vs) (.agg (nilL q cs)) := by
  obtain ⟨h1, h2⟩ := nilL_get (Z := Z) (Y := Y) hu cs q hq
  cases h with
  | agg _ _ hl ho hr =>
    refine .agg vs _ (by rw [h1]; exact hl) ho (fun i u x hu' hx => ?_)
    have hi : i < cs.length := by rw [← h1]; exact (List.getElem?_eq_some_iff.1 hx).1
    exact h2 i u x _ (List.getElem?_eq_getElem hi) hx (hr i u _ hu' (List.getElem?_eq_getElem hi))
theorem nilA_rep {nid q : Nat} (hu : ∀ i, m i ≠ none → i < nid) (hq : nid ≤ q) {v : Value} {x : V} (h : Rep Z Y m v x) : Rep Z Y (nilM nid m) v (nilA q x) := by
  unfold nilA
  split
  · cases h with
    | agg vs _ hl ho hr => exact nilL_rep hu hq (.agg vs _ hl ho hr)
  · exact nilC_rep hu hq h
theorem nilAs_get {nid : Nat} (hu : ∀ i, m i ≠ none → i < nid) : ∀ (cs : List V) (q : Nat), nid ≤ q → (nilAs q cs).length = cs.length ∧ ∀ (i : Nat) (u : Value) x y, cs[i]? = some y → (nilAs q cs)[i]? = some x → Rep Z Y m u y → Rep Z Y (nilM nid m) u x
  | [], q, _ => ⟨rfl, by simp⟩
  | c :: cs, q, hq => by
    obtain ⟨h1, h2⟩ := nilAs_get hu cs (q + 100) (by omega)
    refine ⟨by simp [nilAs, h1], fun i u x y hy hx r => ?_⟩
    cases i with
    | zero => simp [nilAs] at hx hy; subst hx hy; exact nilA_rep hu hq r
    | succ i => exact h2 i u x y (by simpa using hy) (by simpa [nilAs] using hx) r
theorem nilT_rep {nid q : Nat} (hu : ∀ i, m i ≠ none → i < nid) (hq : nid ≤ q) {v : Value} {x : V} (h : Rep Z Y m v x) : Rep Z Y (nilM nid m) v (nilT q x) := by
  unfold nilT
  split
  · rename_i vs
    obtain ⟨h1, h2⟩ := nilAs_get (Z := Z) (Y := Y) hu vs q hq
    cases h with
    | tup us _ hl hr =>
      refine .tup us _ (by rw [h1]; exact hl) (fun i u x hu' hx => ?_)
      have hi : i < vs.length := by rw [← h1]; exact (List.getElem?_eq_some_iff.1 hx).1
      exact h2 i u x _ (List.getElem?_eq_getElem hi) hx (hr i u _ hu' (List.getElem?_eq_getElem hi))
  · exact nilA_rep hu hq h
/-- nil slices asx rows -/
theorem Rel.nils (R : Rel w0 Z Y m h sh w) {nid : Nat} (hu : ∀ i, m i ≠ none → i < nid) : Rel w0 Z Y (nilM nid m) (nilH nid h) (nilSh nid sh) w := by
  have hle := nilM_le hu
  refine ⟨R.bel, R.gw, R.zok, R.yok, fun id cs hi => ?_, fun id es hi => ?_, fun id es i v hi => ?_, fun id l hi => ?_, fun id id' g h1 h2 e1 e2 => ?_⟩
  · unfold nilH at hi
    split at hi
    · rename_i hlt
      cases hb : h id with
      | none => rw [hb] at hi; cases hi
      | some b =>
        rw [hb] at hi
        injection hi with hi
        cases b with
        | mp l' => cases hi
        | row es => cases hi
        | tab es i v => cases hi
        | box cs0 =>
          injection hi with hi; subst hi
          obtain ⟨g, hm, hat⟩ := R.box id cs0 hb
          obtain ⟨t, vs, hv, hr⟩ := hat.ex
          exact ⟨g, hle _ _ hm, ⟨hat.base, ⟨t, vs, hv, nilL_rep hu (by omega) hr⟩, hat.apart⟩⟩
    · cases hi
  · unfold nilH at hi
    split at hi
    · rename_i hlt
      cases hb : h id with
      | none => rw [hb] at hi; cases hi
      | some b =>
        rw [hb] at hi
        injection hi with hi
        cases b with
        | mp l' => cases hi
        | box cs0 => cases hi
        | tab es i v => cases hi
        | row es0 =>
          injection hi with hi; subst hi
          have hs : nilSh nid sh id = sh id := by simp [nilSh, hlt]
          rw [hs]
          rcases R.row id es0 hb with ⟨h0, h1⟩ | ⟨g, n, c, k, hm, hat⟩
          · exact .inl ⟨hle _ _ h0, h1⟩
          · exact .inr ⟨g, n, c, k, hle _ _ hm, hat⟩
    · rename_i hge
      injection hi with hi; injection hi with hi; subst hi
      exact .inl ⟨by simp [nilM, hge], rfl⟩
  · unfold nilH at hi
    split at hi
    · cases hb : h id with
      | none => rw [hb] at hi; cases hi
      | some b =>
        rw [hb] at hi
        injection hi with hi
        cases b with
        | mp l' => cases hi
        | row es => cases hi
        | box cs0 => cases hi
        | tab es0 i0 v0 =>
          injection hi with a1 a2 a3; subst a1 a2 a3
          obtain ⟨g, n, c, hm, hat⟩ := R.tab id _ _ _ hb
          have hat := hat.up (ZLe.refl _) hle (fun _ h => h) hat.apart
          obtain ⟨t, fz, cur, hv, hcs, hfz, hcell⟩ := hat.ex
          refine ⟨g, n, c, hle _ _ hm, ⟨hat.base, ⟨t, fz, cur, hv, hcs, hfz, fun q x hx => ?_⟩, by have := hat.len; simpa [tabC] using this, hat.le, hat.apart⟩⟩
          have hq : q < es0.length := by have := (List.getElem?_eq_some_iff.1 hx).1; simpa [tabC] using this
          unfold tabC at hx
          by_cases hqi : q = i0
          · subst hqi
            rw [List.getElem?_set_self (by simpa using hq)] at hx
            injection hx with hx; subst hx
            obtain ⟨g', n', c', hm', hat'⟩ := R.tab id _ _ _ hb
            rw [hm] at hm'
            injection hm' with hm'; injection hm' with a1 a2 a3; injection a1 with a1; injection a1 with a1
            subst a1 a2 a3
            obtain ⟨t', fz', cur', hv', _, _, hcell'⟩ := hat'.ex
            rw [hv] at hv'
            injection hv' with hv'; injection hv' with b1 b2 b3; subst b1 b2 b3
            obtain ⟨u, a, b, r⟩ := hcell' q v0 (by unfold tabC; rw [List.getElem?_set_self (by simpa using hq)])
            exact ⟨u, a, b, nilC_rep hu (by omega) r⟩
          · rw [List.getElem?_set_ne (Ne.symm hqi)] at hx
            exact hcell q x (by unfold tabC; rw [List.getElem?_set_ne (Ne.symm hqi)]; exact hx)
    · cases hi
  · unfold nilH at hi
    split at hi
    · cases hb : h id with
      | none => rw [hb] at hi; cases hi
      | some b =>
        rw [hb] at hi
        injection hi with hi
        cases b with
        | row es => cases hi
        | box cs0 => cases hi
        | tab es0 i0 v0 => cases hi
        | mp l' =>
          injection hi with hi; subst hi
          obtain ⟨g, hm, hat⟩ := R.mp id _ hb
          exact ⟨g, hle _ _ hm, hat⟩
    · cases hi
  · have hlt : ∀ q g, blkOf (nilM nid m) q = some g → q < nid := fun q g hg => by
      rcases Nat.lt_or_ge q nid with h | h
      · exact h
      · simp [blkOf, nilM, Nat.not_lt.2 h] at hg
    have c1 := hlt id g e1
    have c2 := hlt id' g e2
    refine R.inj id id' g ?_ ?_ ?_ ?_
    · simp [nilH, c1] at h1; exact h1
    · simp [nilH, c2] at h2; exact h2
    · simpa [blkOf, nilM, c1] using e1
    · simpa [blkOf, nilM, c2] using e2
/-- numbered anew -/
theorem Rel.renum (R : Rel w0 Z Y m h sh w) (l : List Nat) (hl : l.Nodup) : Rel w0 Z Y (fun j => (l[j]?).bind m) (fun j => ((l[j]?).bind h).map (B.renO (fun id => pos id l))) (fun j => ((l[j]?).map sh).getD false) w := by
  have hm : ∀ id j v, pos id l = some j → m id = some v → (fun j => (l[j]?).bind m) j = some v := fun id j v hp hv => by
    show (l[j]?).bind m = some v
    rw [pos_get hp]; exact hv
  refine ⟨R.bel, R.gw, R.zok, R.yok, fun j cs hj => ?_, fun j es hj => ?_, fun j es i v hj => ?_, fun j l' hj => ?_, fun j j' g h1 h2 e1 e2 => ?_⟩
  · cases hlj : l[j]? with
    | none => rw [hlj] at hj; cases hj
    | some id =>
      rw [hlj] at hj
      simp only [Option.bind_some] at hj
      cases hb : h id with
      | none => rw [hb] at hj; cases hj
      | some b =>
        rw [hb] at hj
        injection hj with hj
        cases b with
        | mp l' => cases hj
        | row es => cases hj
        | tab es i v => cases hj
        | box cs0 =>
          injection hj with hj; subst hj
          obtain ⟨g, hmg, hat⟩ := R.box id cs0 hb
          obtain ⟨t, vs, hv, hr⟩ := hat.ex
          refine ⟨g, hmg, ⟨hat.base, ⟨t, vs, hv, ?_⟩, hat.apart⟩⟩
          cases hr with
          | agg _ _ hll ho hrr => exact .agg vs _ (by simp [hll]) ho (map_rep (fun v x h => aggO_rep hm h) hrr)
  · cases hlj : l[j]? with
    | none => rw [hlj] at hj; cases hj
    | some id =>
      rw [hlj] at hj
      simp only [Option.bind_some] at hj
      cases hb : h id with
      | none => rw [hb] at hj; cases hj
      | some b =>
        rw [hb] at hj
        injection hj with hj
        cases b with
        | mp l' => cases hj
        | box cs => cases hj
        | tab es i v => cases hj
        | row es0 =>
          injection hj with hj; subst hj
          simp only [Option.map_some, Option.getD_some]
          rcases R.row id es0 hb with ⟨h0, h1⟩ | ⟨g, n, c, k, hmg, hat⟩
          · exact .inl ⟨by show (l[j]?).bind m = _; rw [hlj]; exact h0, h1⟩
          · exact .inr ⟨g, n, c, k, by show (l[j]?).bind m = _; rw [hlj]; exact hmg, hat⟩
  · cases hlj : l[j]? with
    | none => rw [hlj] at hj; cases hj
    | some id =>
      rw [hlj] at hj
      simp only [Option.bind_some] at hj
      cases hb : h id with
      | none => rw [hb] at hj; cases hj
      | some b =>
        rw [hb] at hj
        injection hj with hj
        cases b with
        | mp l' => cases hj
        | box cs => cases hj
        | row es0 => cases hj
        | tab es0 i0 v0 =>
          injection hj with a1 a2 a3; subst a1 a2 a3
          obtain ⟨g, n, c, hmg, hat⟩ := R.tab id _ _ _ hb
          obtain ⟨t, fz, cur, hv, hcs, hfz, hcell⟩ := hat.ex
          refine ⟨g, n, c, hmg, ⟨hat.base, ⟨t, fz, cur, hv, hcs, hfz, fun q x hx => ?_⟩, by have := hat.len; simpa [tabC] using this, hat.le, hat.apart⟩⟩
          have hq : q < es0.length := by have := (List.getElem?_eq_some_iff.1 hx).1; simpa [tabC] using this
          by_cases hqi : q = i0
          · subst hqi
            unfold tabC at hx
            rw [List.getElem?_set_self (by simpa using hq)] at hx
            injection hx with hx; subst hx
            obtain ⟨u, a, b, r⟩ := hcell q v0 (by unfold tabC; rw [List.getElem?_set_self (by simpa using hq)])
            exact ⟨u, a, b, aggO_rep hm r⟩
          · unfold tabC at hx
            rw [List.getElem?_set_ne (Ne.symm hqi)] at hx
            obtain ⟨u, a, b, r⟩ := hcell q x (by unfold tabC; rw [List.getElem?_set_ne (Ne.symm hqi)]; exact hx)
            refine ⟨u, a, b, ?_⟩
            rw [List.getElem?_map, List.getElem?_eq_getElem hq] at hx
            injection hx with hx; subst hx
            unfold headV at r ⊢
            split at r
            · cases r with | c r => exact .c r
            · exact .any _
  · cases hlj : l[j]? with
    | none => rw [hlj] at hj; cases hj
    | some id =>
      rw [hlj] at hj
      simp only [Option.bind_some] at hj
      cases hb : h id with
      | none => rw [hb] at hj; cases hj
      | some b =>
        rw [hb] at hj
        injection hj with hj
        cases b with
        | box cs => cases hj
        | row es0 => cases hj
        | tab es0 i0 v0 => cases hj
        | mp l0 =>
          injection hj with hj; subst hj
          obtain ⟨g, hmg, hat⟩ := R.mp id _ hb
          exact ⟨g, hmg, hat⟩
  · have key : ∀ q, ((l[q]?).bind h).map (B.renO (fun id => pos id l)) ≠ none → blkOf (fun j => (l[j]?).bind m) q = some g → ∃ id, l[q]? = some id ∧ h id ≠ none ∧ blkOf m id = some g := by
      intro q hq hg
      cases hlq : l[q]? with
      | none => rw [hlq] at hq; exact absurd rfl hq
      | some id =>
        refine ⟨id, rfl, ?_, ?_⟩
        · rw [hlq] at hq
          intro hn
          rw [Option.bind_some, hn] at hq
          exact hq rfl
        · simpa [blkOf, hlq] using hg
    obtain ⟨id, a1, a2, a3⟩ := key j h1 e1
    obtain ⟨id', b1, b2, b3⟩ := key j' h2 e2
    have := R.inj id id' g a2 b2 a3 b3
    subst this
    obtain ⟨hj, q1⟩ := List.getElem?_eq_some_iff.1 a1
    obtain ⟨hj', q2⟩ := List.getElem?_eq_some_iff.1 b1
    have hp := List.pairwise_iff_getElem.1 hl
    rcases Nat.lt_trichotomy j j' with h | h | h
    · exact absurd (q1.trans q2.symm) (hp j j' hj hj' h)
    · exact h
    · exact absurd (q2.trans q1.symm) (hp j' j hj' hj h)
theorem reach_mem {h : Nat → Option B} {vs : List V} {v : V} {id : Nat} (hv : v ∈ vs) (hi : id ∈ v.ids) : id ∈ reach h vs := by
  unfold reach
  exact dd_mem (List.mem_append_left _ (dd_mem (List.mem_append_left _ (dd_mem (List.mem_flatMap.2 ⟨v, hv, hi⟩)))))
theorem canon_sim {D : List Deferred} {G : Nat → Option Value} {nt : Nat} {s : St} {a : Act} (live : List Nat) (F : FrS D G w0 Z Y m nt s a w) (hu : ∀ i, m i ≠ none → i < s.nx) : ∃ m', FrS D G w0 Z Y m' nt (canon live s) a w ∧ ∀ i, m' i ≠ none → i < (canon live s).nx := by
  have hl : ∀ L : List V, L = (live.map fun i => nilA (s.nx + 200 * i) (s.t i)) ++ s.og.map (fun id => .ptr id 0) → ∃ m', FrS D G w0 Z Y m' nt (canon live s) a w ∧ ∀ i, m' i ≠ none → i < (canon live s).nx := by
    intro L hL
    have hc : canon live s = { t := fun i => if i ∈ live then aggO (fun id => pos id (reach (nilH s.nx s.h) L)) (nilA (s.nx + 200 * i) (s.t i)) else .any,
                               h := fun j => (((reach (nilH s.nx s.h) L)[j]?).bind (nilH s.nx s.h)).map (B.renO (fun id => pos id (reach (nilH s.nx s.h) L))),
                               sh := fun j => (((reach (nilH s.nx s.h) L)[j]?).map (nilSh s.nx s.sh)).getD false,
                               nx := (reach (nilH s.nx s.h) L).length, lr := fun _ => [], lw := fun _ => [], og := s.og.map fun id => (pos id (reach (nilH s.nx s.h) L)).getD 0 } := by rw [hL]; rfl
    rw [hc]
    refine ⟨fun j => ((reach (nilH s.nx s.h) L)[j]?).bind (nilM s.nx m), ⟨⟨F.fr.size, fun i => ?_⟩, ?_, ?_, F.df⟩, fun i hi => ?_⟩
    · show Rep _ _ _ _ (if i ∈ live then aggO _ (nilA (s.nx + 200 * i) (s.t i)) else .any)
      split
      · refine aggO_rep (fun id j v hp hv => ?_) (nilA_rep hu (by omega) (F.fr.rep i))
        show Option.bind _ _ = some v
        rw [pos_get hp]; exact hv
      · exact .any _
    · exact (F.rel.nils hu).renum _ (dd_nodup _)
    · intro i id v h1 h2
      simp only [List.getElem?_map, Option.map_eq_some_iff] at h1
      obtain ⟨id0, h1, e⟩ := h1
      have hm := F.og i id0 v h1 h2
      have hmem : id0 ∈ reach (nilH s.nx s.h) L := reach_mem (v := .ptr id0 0) (by rw [hL]; exact List.mem_append_right _ (List.mem_map.2 ⟨id0, List.mem_of_getElem? h1, rfl⟩)) (by simp [V.ids])
      obtain ⟨j, hj⟩ := pos_mem hmem
      rw [hj, Option.getD_some] at e
      subst e
      show Option.bind _ _ = some v
      rw [pos_get hj]
      show nilM s.nx m id0 = some v
      unfold nilM
      rw [if_pos (hu id0 (by rw [hm]; simp))]
      exact hm
    · show i < (reach (nilH s.nx s.h) L).length
      rcases Nat.lt_or_ge i (reach (nilH s.nx s.h) L).length with h | h
      · exact h
      · exfalso; apply hi; simp only; rw [List.getElem?_eq_none h]; rfl
  exact hl _ rfl
end
end Go.Proofs.YtomnbknaanlmaaaGreatDoor
namespace Go.Proofs.YtomnbknaanlmaaaGreatDoor
open Go.RowKit
section
variable {P : Program} {Z Y : ZMap} {m : Nat → Option Value} {w0 : WB} {w : World}
theorem runN_sim {D : List Deferred} {G : Nat → Option Value} {call : FuncId → List V → Option (V × List B)} (hcall : ∀ g args res, call g args = some res → CallOk P g args res) {ch : FuncId → Option (List V → St → Option (V × St))} (hch : ∀ f g args s0 v s1, ch f = some g → g args s0 = some (v, s1) → HeapOk P f args s0 v s1)
    {lv : Nat → List Nat} {nt : Nat} {ops : Array Oper} {Q : Exit → Act → World → Prop} : ∀ (l : List Oper) {jj base : Nat} {Z : ZMap} {m : Nat → Option Value} {s s' : St} {a : Act} {w : World}, FrS D G w0 Z Y m nt s a w → (∀ i, m i ≠ none → i < base) → runN P call ch lv nt ops l jj base s = some s' →
    (∀ a' w' Z' m', ZUp w0 Z Z' → (∀ i, m' i ≠ none → i < s'.nx) → FrS D G w0 Z' Y m' nt s' a' w' → Q .normal a' w') → wpList P ops Q l a w
  | [], jj, base, Z, m, s, s', a, w, F, hm, hr, hQ => by
    simp only [runN] at hr
    injection hr with hr; subst hr
    exact hQ a w Z m ZUp.refl hm ⟨F.fr, F.rel, F.og, F.df⟩
  | o :: l, jj, base, Z, m, s, s', a, w, F, hm, hr, hQ => by
    rw [runN] at hr
    split at hr
    · rename_i f g asx hio
      split at hr
      case isFalse => cases hr
      rename_i hd
      cases hw : wantedV ops s.t o with
      | none => rw [hw] at hr; cases hr
      | some b =>
        rw [hw] at hr
        simp only [Option.bind_some] at hr
        refine wpList_step fun K' hK' => ?_
        rw [wanted_sim F.fr hw]
        cases b with
        | false =>
          simp only [Bool.false_eq_true, if_false] at hr ⊢
          exact hK' _ _ (runN_sim hcall hch l (base := base + 8) (s := { s with t := putD s.t o.dst (.tup []) }) ⟨F.fr.put o.dst hd (.tup #[] [] rfl (by simp)), F.rel, F.og, (put_df _ _ _).trans F.df⟩ (fun i hi => by have := hm i hi; omega) hr hQ)
        | true =>
          simp only [if_true] at hr ⊢
          cases hy : heapD g asx base (lv jj) base s with
          | none => rw [hy] at hr; cases hr
          | some y =>
            rw [hy] at hr
            simp only [Option.bind_some] at hr
            have hfr : ∀ i, base ≤ i → i < base + 8 → m i = none ∧ s.h i = none := fun i hi _ => by
              have hmi : m i = none := by
                cases hc : m i with
                | none => rfl
                | some v => have := hm i (by rw [hc]; simp); omega
              refine ⟨hmi, ?_⟩
              cases hc : s.h i with
              | none => rfl
              | some b => exact absurd hmi (F.rel.m_of_h (by rw [hc]; simp))
            refine heapD_sim hch (fun x => F.fr.eval x) F.rel hm hio hfr hy (fun cv w' Z' m' u1 u2 u3 R1 r1 => hK' _ _ ?_)
            refine runN_sim hcall hch l (base := base + 8) (s := { s with t := putD s.t o.dst y.1, h := y.2.1, sh := y.2.2 }) ⟨(F.fr.mono u1.le u2).put o.dst hd r1, R1, og_le F.og u2, (put_df _ _ _).trans F.df⟩ (fun i hi => ?_) hr (fun a'' w'' Z'' m'' v1 v3 F'' => hQ a'' w'' Z'' m'' (u1.trans v1) v3 F'')
            rcases u3 i hi with h | h
            · have := hm i h; omega
            · omega
    · cases h1 : opD P (hp0 call) nt ops s.h base o s with
      | none => rw [h1] at hr; cases hr
      | some s1 =>
        rw [h1] at hr
        simp only [Option.bind_some] at hr
        have hfr : ∀ i, base ≤ i → i < base + 8 → m i = none ∧ s.h i = none := fun i hi _ => by
          have hmi : m i = none := by
            cases hc : m i with
            | none => rfl
            | some v => have := hm i (by rw [hc]; simp); omega
          refine ⟨hmi, ?_⟩
          cases hc : s.h i with
          | none => rfl
          | some b => exact absurd hmi (F.rel.m_of_h (by rw [hc]; simp))
        refine wpList_step fun K hK => opD_sim (hp := hp0 call) hcall (fun h => by rw [show isIo (hp0 call).io o.op = false from isIo_no] at h; cases h) (fun h => by rw [show isIo (hp0 call).io o.op = false from isIo_no] at h; cases h) F (fun _ _ h => h) hfr h1 (fun a' w' Z' m' u1 u2 u3 F' => hK _ _ ?_)
        refine runN_sim hcall hch l F' (fun i hi => ?_) hr (fun a'' w'' Z'' m'' v1 v3 F'' => hQ a'' w'' Z'' m'' (u1.trans v1) v3 F'')
        rcases u3 i hi with h | h
        · have := hm i h; omega
        · omega
end
end Go.Proofs.YtomnbknaanlmaaaGreatDoor
