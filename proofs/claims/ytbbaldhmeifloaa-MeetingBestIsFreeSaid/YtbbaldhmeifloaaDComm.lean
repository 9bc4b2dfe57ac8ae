/- Operations of a region that are not ordered may be exchanged; so every order comes to the same. -/
import Derived.Test.YtbbaldhmeifloaaDOrd
namespace Go.Proofs.Ytbbaldhmeifloaa
open Go.RowKit
section
variable {P : Program} {call : FuncId → List V → Option (V × List B)} {nt : Nat} {ops : Array Oper} {an : Nat → Nat} {rb : Nat}

theorem st_ext {a b : St} (h1 : a.t = b.t) (h2 : a.h = b.h) (h3 : a.sh = b.sh) (h4 : a.nx = b.nx) (h5 : a.lr = b.lr) (h6 : a.lw = b.lw) (h7 : a.og = b.og) : a = b := by
  cases a; cases b
  simp only at h1 h2 h3 h4 h5 h6 h7
  subst h1 h2 h3 h4 h5 h6 h7
  rfl

/-- the logs of an operation that has not been run -/
def noLog (s : St) (i : Nat) : Prop := s.lr i = none ∧ s.lw i = none

theorem logOk_other {n i j : Nat} {lg : Nat → Option Nat} {a b : Option Nat} (hi : lg i = none) (h : b = none ∨ a = none ∨ b ≠ a ∨ ordB an i j = true) : logOk n an (upd lg i b) j a = logOk n an lg j a := by
  unfold logOk
  cases a with
  | none => rfl
  | some a =>
    simp only [Option.isNone_some, Bool.false_or]
    congr 1
    funext q
    simp only [upd]
    by_cases e : q = i
    · subst e
      simp only [if_true]
      rcases h with rfl | h | h | h
      · rw [hi]
      · cases h
      · rw [hi]
        have : (b != some a) = true := by simpa using h
        rw [this]; rfl
      · rw [h]; simp
    · simp only [e, if_false]

theorem logOk_same {n i j : Nat} {lg : Nat → Option Nat} {a : Nat} (hi : i < n) (h : ordB an i j = false) : logOk n an (upd lg i (some a)) j (some a) = false := by
  unfold logOk
  simp only [Option.isNone_some, Bool.false_or]
  rw [List.all_eq_false]
  exact ⟨i, by simpa using hi, by simp [upd, h]⟩

theorem rho_af {x y : Oper} (hap : ∀ d, x.dst = some d → d ∉ y.looksAt ops) {i : Nat} {e : V × Hact} {s : St} : ∀ z ∈ y.op.operands, rho (afD rb i x e s).t z = rho s.t z := rho_put (ops := ops) (o := y) hap

theorem lg_af {x y : Oper} (hap : ∀ d, x.dst = some d → d ∉ y.looksAt ops) {i j n : Nat} {e : V × Hact} {s : St} (hl : noLog s i)
    (h1 : stAdr (rho s.t) x.op = none ∨ ldAdr (rho s.t) y.op = none ∨ stAdr (rho s.t) x.op ≠ ldAdr (rho s.t) y.op) (h2 : ldAdr (rho s.t) x.op = none ∨ stAdr (rho s.t) y.op = none ∨ ldAdr (rho s.t) x.op ≠ stAdr (rho s.t) y.op) : lgD n an j y (afD rb i x e s) = lgD n an j y s := by
  have hr := adr_congr (rho_af (rb := rb) (i := i) (e := e) (s := s) hap)
  unfold lgD
  rw [hr.1, hr.2]
  show (logOk n an (upd s.lw i (stAdr (rho s.t) x.op)) j (ldAdr (rho s.t) y.op) && logOk n an (upd s.lr i (ldAdr (rho s.t) x.op)) j (stAdr (rho s.t) y.op)) = _
  rw [logOk_other hl.2 (h1.imp id (Or.imp id .inl)), logOk_other hl.1 (h2.imp id (Or.imp id .inl))]

theorem evD_af {x y : Oper} (hap : ∀ d, x.dst = some d → d ∉ y.looksAt ops) {i : Nat} {e : V × Hact} {s : St} {hv : Nat → Option B} {base : Nat} :
    evD P call nt ops hv base y (afD rb i x e s) = evD P call nt ops hv base y { s with h := (afD rb i x e s).h, sh := (afD rb i x e s).sh } := by
  have := evD_t (P := P) (call := call) (nt := nt) (ops := ops) (hv := hv) (base := base) (o := y) (s := { s with h := (afD rb i x e s).h, sh := (afD rb i x e s).sh }) (d := x.dst) (v := e.1) (lr := (afD rb i x e s).lr) (lw := (afD rb i x e s).lw) hap
  rw [← this]
  rfl

theorem af_h {x : Oper} {i : Nat} {v : V} {bs : List B} {fl : List Nat} {s : St} : (afD rb i x (v, .inl (bs, fl)) s).h = addB s.h (rb + 8 * i) bs ∧ (afD rb i x (v, .inl (bs, fl)) s).sh = flag s.sh fl := ⟨rfl, rfl⟩

/-- both read or reckon -/
theorem comm_11 {i j : Nat} {x y : Oper} {s : St} (hij : i ≠ j) (hb1 : (an j).testBit i = false) (hb2 : (an i).testBit j = false) (hap : x.apart ops y = true) (kx : kindOf P x.op = 0 ∨ kindOf P x.op = 1) (ky : kindOf P y.op = 0 ∨ kindOf P y.op = 1) (l1 : noLog s i) (l2 : noLog s j) :
    (stepD P call nt ops an rb i x s).bind (stepD P call nt ops an rb j y) = (stepD P call nt ops an rb j y s).bind (stepD P call nt ops an rb i x) := by
  obtain ⟨a1, a2, a3⟩ := apart_sp hap
  have sx : stAdr (rho s.t) x.op = none := adr_none.2 (kx.elim (fun h => (kind0_plain h).2) kind1_plain)
  have sy : stAdr (rho s.t) y.op = none := adr_none.2 (ky.elim (fun h => (kind0_plain h).2) kind1_plain)
  have act : ∀ {hv base o e}, (kindOf P o.op = 0 ∨ kindOf P o.op = 1) → evD P call nt ops hv base o s = some e → ∃ v bs fl, e = (v, .inl (bs, fl)) ∧ bs.length ≤ 8 := by
    intro hv base o e hk he
    rcases evD_act he with ⟨bs, fl, h1, h2, _⟩ | ⟨z, _, h0, h1⟩
    · obtain ⟨v, q⟩ := e; simp only at h1; subst h1; exact ⟨v, bs, fl, rfl, h2⟩
    · rcases hk with h | h
      · exact absurd h h0
      · exact absurd h h1
  refine comm_of ?_ ?_ ?_
  · intro e he _
    obtain ⟨v, bs, fl, rfl, hl⟩ := act kx he
    refine ⟨lg_af a1 l1 (.inl sx) (.inr (.inl sy)), ?_⟩
    rw [evD_af a1, evD_heap ky, af_h.1, vis_addB hl hb1]
  · intro e he _
    obtain ⟨v, bs, fl, rfl, hl⟩ := act ky he
    refine ⟨lg_af a2 l2 (.inl sy) (.inr (.inl sx)), ?_⟩
    rw [evD_af a2, evD_heap kx, af_h.1, vis_addB hl hb2]
  · intro e f he hf
    obtain ⟨v, bs, fl, rfl, hl⟩ := act kx he
    obtain ⟨v', bs', fl', rfl, hl'⟩ := act ky hf
    have r1 := adr_congr (rho_af (rb := rb) (i := i) (e := (v, .inl (bs, fl))) (s := s) a1)
    have r2 := adr_congr (rho_af (rb := rb) (i := j) (e := (v', .inl (bs', fl'))) (s := s) a2)
    refine st_ext ?_ ?_ ?_ rfl ?_ ?_ rfl
    · exact putD_comm a3
    · exact addB_comm hl hl' (by omega)
    · exact flag_comm fl fl'
    · show upd (upd s.lr i _) j (ldAdr (rho (afD rb i x (v, .inl (bs, fl)) s).t) y.op) = upd (upd s.lr j _) i (ldAdr (rho (afD rb j y (v', .inl (bs', fl')) s).t) x.op)
      rw [r1.1, r2.1]
      exact upd_comm hij
    · show upd (upd s.lw i _) j (stAdr (rho (afD rb i x (v, .inl (bs, fl)) s).t) y.op) = upd (upd s.lw j _) i (stAdr (rho (afD rb j y (v', .inl (bs', fl')) s).t) x.op)
      rw [r1.2, r2.2]
      exact upd_comm hij

/-- one reckons, the other writes -/
theorem comm_02 {i j : Nat} {x y : Oper} {s : St} (hij : i ≠ j) (hap : x.apart ops y = true) (kx : kindOf P x.op = 0) (_ky : kindOf P y.op ≠ 0 ∧ kindOf P y.op ≠ 1) (l1 : noLog s i) (l2 : noLog s j) :
    (stepD P call nt ops an rb i x s).bind (stepD P call nt ops an rb j y) = (stepD P call nt ops an rb j y s).bind (stepD P call nt ops an rb i x) := by
  obtain ⟨a1, a2, a3⟩ := apart_sp hap
  have px := kind0_plain kx
  have sx : stAdr (rho s.t) x.op = none := adr_none.2 px.2
  have lx : ldAdr (rho s.t) x.op = none := adr_none.1 px.1
  have actx : ∀ {hv base e}, evD P call nt ops hv base x s = some e → ∃ v, e = (v, .inl ([], [])) := by
    intro hv base e he
    rcases evD_act he with ⟨bs, fl, h1, _, h3, _⟩ | ⟨z, _, h0, _⟩
    · obtain ⟨rfl, rfl⟩ := h3 kx
      obtain ⟨v, q⟩ := e; simp only at h1; subst h1; exact ⟨v, rfl⟩
    · exact absurd kx h0
  refine comm_of ?_ ?_ ?_
  · intro e he _
    obtain ⟨v, rfl⟩ := actx he
    refine ⟨lg_af a1 l1 (.inl sx) (.inl lx), ?_⟩
    rw [evD_af a1, af_h.1, af_h.2, addB_nil, flag_nil]
  · intro e he _
    refine ⟨lg_af a2 l2 (.inr (.inl lx)) (.inr (.inl sx)), ?_⟩
    rw [evD_af a2, evD_heap (.inl kx)]
    exact evD_view (by omega)
  · intro e f he hf
    obtain ⟨v, rfl⟩ := actx he
    have r1 := adr_congr (rho_af (rb := rb) (i := i) (e := (v, .inl ([], []))) (s := s) a1)
    have r2 := adr_congr (rho_af (rb := rb) (i := j) (e := f) (s := s) a2)
    have hh : ∀ q : V × Hact, (apD (rb + 8 * j) y q (afD rb i x (v, .inl ([], [])) s)).h = (apD (rb + 8 * i) x (v, .inl ([], [])) (afD rb j y q s)).h ∧ (apD (rb + 8 * j) y q (afD rb i x (v, .inl ([], [])) s)).sh = (apD (rb + 8 * i) x (v, .inl ([], [])) (afD rb j y q s)).sh := by
      rintro ⟨v', z | z⟩
      · refine ⟨?_, ?_⟩
        · show addB (addB s.h (rb + 8 * i) []) (rb + 8 * j) z.1 = addB (addB s.h (rb + 8 * j) z.1) (rb + 8 * i) []
          rw [addB_nil, addB_nil]
        · show flag (flag s.sh []) z.2 = flag (flag s.sh z.2) []
          rw [flag_nil, flag_nil]
      · refine ⟨?_, ?_⟩
        · show z.1 = addB z.1 (rb + 8 * i) []
          rw [addB_nil]
        · show z.2 = flag z.2 []
          rw [flag_nil]
    refine st_ext ?_ ?_ ?_ rfl ?_ ?_ rfl
    · exact putD_comm a3
    · exact (hh f).1
    · exact (hh f).2
    · show upd (upd s.lr i _) j (ldAdr (rho (afD rb i x (v, .inl ([], [])) s).t) y.op) = upd (upd s.lr j _) i (ldAdr (rho (afD rb j y f s).t) x.op)
      rw [r1.1, r2.1]
      exact upd_comm hij
    · show upd (upd s.lw i _) j (stAdr (rho (afD rb i x (v, .inl ([], [])) s).t) y.op) = upd (upd s.lw j _) i (stAdr (rho (afD rb j y f s).t) x.op)
      rw [r1.2, r2.2]
      exact upd_comm hij

theorem loadV_upd {hv : Nat → Option B} {id : Nat} {b : Option B} {t : TypeId} {A : V} (h : adrOf A ≠ some id) : loadV P (upd hv id b) t A = loadV P hv t A := by
  cases A <;> simp only [adrOf] at h <;> simp only [loadV]
  case ptr q off => have : q ≠ id := fun e => h (by rw [e]); simp [upd, this]
  case rptr q k i off => have : q ≠ id := fun e => h (by rw [e]); simp [upd, this]

/-- a load and a store -/
theorem comm_ls {i j : Nat} {x y : Oper} {s : St} (hi : i < ops.size) (hj : j < ops.size) (hij : i ≠ j) (hord : ordB an i j = false) (hap : x.apart ops y = true) (kx : isLd x.op = true) (ky : isSt y.op = true) (l1 : noLog s i) (l2 : noLog s j) :
    (stepD P call nt ops an rb i x s).bind (stepD P call nt ops an rb j y) = (stepD P call nt ops an rb j y s).bind (stepD P call nt ops an rb i x) := by
  obtain ⟨a1, a2, a3⟩ := apart_sp hap
  obtain ⟨kx1, t, ax, hx⟩ := kind_ld (P := P) kx
  obtain ⟨ky2, t', ay, vy, hy⟩ := kind_st (P := P) ky
  have sx : stAdr (rho s.t) x.op = none := adr_none.2 (by rw [hx]; rfl)
  have ly : ldAdr (rho s.t) y.op = none := adr_none.1 (by rw [hy]; rfl)
  have lx : ldAdr (rho s.t) x.op = adrOf (rho s.t ax) := by rw [hx]; rfl
  have sy : stAdr (rho s.t) y.op = adrOf (rho s.t ay) := by rw [hy]; rfl
  have hordj : ordB an j i = false := by
    unfold ordB at hord ⊢
    simp only [Bool.or_eq_false_iff, beq_eq_false_iff_ne] at hord ⊢
    exact ⟨⟨hord.1.2, hord.1.1⟩, Ne.symm hord.2⟩
  have actx : ∀ {hv base e}, evD P call nt ops hv base x s = some e → ∃ v, e = (v, .inl ([], [])) := by
    intro hv base e he
    rcases evD_act he with ⟨bs, fl, h1, _, _, h4⟩ | ⟨z, _, _, h0⟩
    · obtain ⟨rfl, rfl⟩ := h4 kx
      obtain ⟨v, q⟩ := e; simp only at h1; subst h1; exact ⟨v, rfl⟩
    · exact absurd kx1 h0
  by_cases hc : ldAdr (rho s.t) x.op = stAdr (rho s.t) y.op ∧ (ldAdr (rho s.t) x.op).isSome = true
  · -- one block: both orders are refused
    obtain ⟨heq, hsome⟩ := hc
    obtain ⟨q, hq⟩ := Option.isSome_iff_exists.1 hsome
    have n1 : (stepD P call nt ops an rb i x s).bind (stepD P call nt ops an rb j y) = none := by
      rw [stepD_eq]
      split
      · cases he : evD P call nt ops (visB s.h rb (an i)) (rb + 8 * i) x s with
        | none => rfl
        | some e =>
          simp only [Option.map_some, Option.bind_some]
          rw [stepD_eq, if_neg]
          have hr := adr_congr (rho_af (rb := rb) (i := i) (e := e) (s := s) a1)
          have : logOk ops.size an (afD rb i x e s).lr j (stAdr (rho (afD rb i x e s).t) y.op) = false := by
            rw [hr.2, ← heq]
            show logOk ops.size an (upd s.lr i (ldAdr (rho s.t) x.op)) j _ = false
            rw [hq]
            exact logOk_same hi hord
          simp [lgD, this]
      · rfl
    have n2 : (stepD P call nt ops an rb j y s).bind (stepD P call nt ops an rb i x) = none := by
      rw [stepD_eq]
      split
      · cases he : evD P call nt ops (visB s.h rb (an j)) (rb + 8 * j) y s with
        | none => rfl
        | some e =>
          simp only [Option.map_some, Option.bind_some]
          rw [stepD_eq, if_neg]
          have hr := adr_congr (rho_af (rb := rb) (i := j) (e := e) (s := s) a2)
          have : logOk ops.size an (afD rb j y e s).lw i (ldAdr (rho (afD rb j y e s).t) x.op) = false := by
            rw [hr.1]
            show logOk ops.size an (upd s.lw j (stAdr (rho s.t) y.op)) i _ = false
            rw [← heq, hq]
            exact logOk_same hj hordj
          simp [lgD, this]
      · rfl
    rw [n1, n2]
  · have hne : ldAdr (rho s.t) x.op = none ∨ stAdr (rho s.t) y.op = none ∨ ldAdr (rho s.t) x.op ≠ stAdr (rho s.t) y.op := by
      by_cases h1 : ldAdr (rho s.t) x.op = stAdr (rho s.t) y.op
      · left
        cases h2 : ldAdr (rho s.t) x.op with
        | none => rfl
        | some q => exact absurd ⟨h1, by rw [h2]; rfl⟩ hc
      · exact .inr (.inr h1)
    refine comm_of ?_ ?_ ?_
    · intro e he _
      obtain ⟨v, rfl⟩ := actx he
      refine ⟨lg_af a1 l1 (.inl sx) hne, ?_⟩
      rw [evD_af a1, af_h.1, af_h.2, addB_nil, flag_nil]
    · intro e he _
      refine ⟨lg_af a2 l2 (hne.elim (fun h => .inr (.inl h)) (Or.elim · .inl (fun h => .inr (.inr (Ne.symm h))))) (.inr (.inl sx)), ?_⟩
      rw [evD_af a2, evD_heap (.inr kx1)]
      -- what the store changed is another block
      have hh : ∃ id b, stAdr (rho s.t) y.op = some id ∧ (afD rb j y e s).h = upd s.h id b ∨ (afD rb j y e s).h = s.h := by
        unfold evD at he
        split at he
        case isFalse => cases he
        cases hw : wantedV ops s.t y with
        | none => rw [hw] at he; cases he
        | some w =>
          rw [hw] at he
          simp only [Option.bind_some] at he
          cases w with
          | false =>
            simp only [Bool.false_eq_true, if_false] at he
            injection he with he; subst he
            exact ⟨0, none, .inr (by rw [af_h.1, addB_nil])⟩
          | true =>
            simp only [if_true, ky2] at he
            cases h2 : ev2 P s.h s.sh (rho s.t) (rb + 8 * j) y.op with
            | none => rw [h2] at he; cases he
            | some z =>
              rw [h2] at he
              injection he with he; subst he
              rw [hy] at h2
              simp only [ev2] at h2
              cases h3 : storeV P s.h s.sh t' (rho s.t ay) (rho s.t vy) with
              | none => rw [h3] at h2; cases h2
              | some z' =>
                rw [h3] at h2
                injection h2 with h2; subst h2
                unfold storeV at h3
                cases hcl : (rho s.t vy).cells with
                | none => rw [hcl] at h3; cases h3
                | some vs =>
                  rw [hcl] at h3
                  simp only [Option.bind_some] at h3
                  split at h3
                  · cases h3
                  split at h3
                  · rename_i id off hA
                    split at h3
                    · split at h3
                      · injection h3 with h3; subst h3
                        exact ⟨id, _, .inl ⟨by rw [sy, hA]; rfl, rfl⟩⟩
                      · cases h3
                    · cases h3
                  · rename_i id k q off hA
                    split at h3
                    · unfold storeT at h3
                      split at h3
                      · split at h3
                        · injection h3 with h3; subst h3
                          exact ⟨id, _, .inl ⟨by rw [sy, hA]; rfl, rfl⟩⟩
                        · cases h3
                      · split at h3
                        case isFalse => cases h3
                        split at h3
                        case isFalse =>
                          injection h3 with h3; subst h3
                          exact ⟨id, _, .inl ⟨by rw [sy, hA]; rfl, rfl⟩⟩
                        · cases hf : frzC s.h _ with
                          | none => rw [hf] at h3; cases h3
                          | some yy =>
                            rw [hf] at h3
                            simp only [Option.bind_some] at h3
                            split at h3
                            · cases h3
                            · injection h3 with h3; subst h3
                              exact ⟨id, _, .inl ⟨by rw [sy, hA]; rfl, rfl⟩⟩
                      · cases h3
                    split at h3
                    · rename_i es hes
                      split at h3
                      · cases h3
                      cases hq : es[q]? with
                      | none => rw [hq] at h3; cases h3
                      | some el =>
                        rw [hq] at h3
                        simp only [Option.bind_some] at h3
                        split at h3
                        · cases hf : frzL s.h vs with
                          | none => rw [hf] at h3; cases h3
                          | some yy =>
                            rw [hf] at h3
                            simp only [Option.bind_some] at h3
                            split at h3
                            · cases h3
                            · injection h3 with h3; subst h3
                              exact ⟨id, _, .inl ⟨by rw [sy, hA]; rfl, rfl⟩⟩
                        · cases h3
                    · cases h3
                  · cases h3
      obtain ⟨id, b, hid | hid⟩ := hh
      · have hvis : ∃ b', visB (afD rb j y e s).h rb (an i) = upd (visB s.h rb (an i)) id b' := by
          refine ⟨if id < rb ∨ (an i).testBit ((id - rb) / 8) = true then b else none, ?_⟩
          rw [hid.2]
          funext q
          simp only [visB, upd]
          by_cases hq : q = id
          · subst hq; simp
          · simp [hq]
        obtain ⟨b', hb'⟩ := hvis
        rw [hb']
        unfold evD
        simp only [kx1]
        have hl : ∀ base, ev1 P call (upd (visB s.h rb (an i)) id b') (rho s.t) base x.op = ev1 P call (visB s.h rb (an i)) (rho s.t) base x.op := by
          intro base
          rw [hx]
          simp only [ev1]
          rw [loadV_upd (by
            rw [← lx]
            rcases hne with h | h | h
            · rw [h]; simp
            · rw [h] at hid; cases hid.1
            · rw [← hid.1]; exact h)]
        rw [hl]
      · rw [hid]
    · intro e f he hf
      obtain ⟨v, rfl⟩ := actx he
      have r1 := adr_congr (rho_af (rb := rb) (i := i) (e := (v, .inl ([], []))) (s := s) a1)
      have r2 := adr_congr (rho_af (rb := rb) (i := j) (e := f) (s := s) a2)
      have hh : ∀ q : V × Hact, (apD (rb + 8 * j) y q (afD rb i x (v, .inl ([], [])) s)).h = (apD (rb + 8 * i) x (v, .inl ([], [])) (afD rb j y q s)).h ∧ (apD (rb + 8 * j) y q (afD rb i x (v, .inl ([], [])) s)).sh = (apD (rb + 8 * i) x (v, .inl ([], [])) (afD rb j y q s)).sh := by
        rintro ⟨v', z | z⟩
        · refine ⟨?_, ?_⟩
          · show addB (addB s.h (rb + 8 * i) []) (rb + 8 * j) z.1 = addB (addB s.h (rb + 8 * j) z.1) (rb + 8 * i) []
            rw [addB_nil, addB_nil]
          · show flag (flag s.sh []) z.2 = flag (flag s.sh z.2) []
            rw [flag_nil, flag_nil]
        · refine ⟨?_, ?_⟩
          · show z.1 = addB z.1 (rb + 8 * i) []
            rw [addB_nil]
          · show z.2 = flag z.2 []
            rw [flag_nil]
      refine st_ext ?_ ?_ ?_ rfl ?_ ?_ rfl
      · exact putD_comm a3
      · exact (hh f).1
      · exact (hh f).2
      · show upd (upd s.lr i _) j (ldAdr (rho (afD rb i x (v, .inl ([], [])) s).t) y.op) = upd (upd s.lr j _) i (ldAdr (rho (afD rb j y f s).t) x.op)
        rw [r1.1, r2.1]
        exact upd_comm hij
      · show upd (upd s.lw i _) j (stAdr (rho (afD rb i x (v, .inl ([], [])) s).t) y.op) = upd (upd s.lw j _) i (stAdr (rho (afD rb j y f s).t) x.op)
        rw [r1.2, r2.2]
        exact upd_comm hij

theorem apart_symm {x y : Oper} (h : x.apart ops y = true) : y.apart ops x = true := by
  obtain ⟨h1, h2, h3⟩ := apart_sp h
  unfold Oper.apart
  cases hx : x.dst with
  | none =>
    cases hy : y.dst with
    | none => rfl
    | some e => have := h2 e hy; simp [this]
  | some d =>
    have a1 := h1 d hx
    have a3 := h3 d hx
    cases hy : y.dst with
    | none => simp [a1]
    | some e =>
      have := h2 e hy
      rw [hy] at a3
      simp [this, a1]
      intro e'
      exact a3 (by rw [e'])

/-- two operations that are not ordered may be exchanged -/
theorem comm {i j : Nat} {x y : Oper} {s : St} (hi : i < ops.size) (hj : j < ops.size) (hij : i ≠ j) (hord : ordB an i j = false) (hf : freeB P ops x y = true) (l1 : noLog s i) (l2 : noLog s j) :
    (stepD P call nt ops an rb i x s).bind (stepD P call nt ops an rb j y) = (stepD P call nt ops an rb j y s).bind (stepD P call nt ops an rb i x) := by
  have ho := hord
  unfold ordB at ho
  simp only [Bool.or_eq_false_iff, beq_eq_false_iff_ne] at ho
  have hordj : ordB an j i = false := by
    unfold ordB
    simp only [Bool.or_eq_false_iff, beq_eq_false_iff_ne]
    exact ⟨⟨ho.1.2, ho.1.1⟩, Ne.symm ho.2⟩
  unfold freeB at hf
  simp only [Bool.and_eq_true, Bool.or_eq_true, beq_iff_eq] at hf
  obtain ⟨hap, hk⟩ := hf
  have hap' := apart_symm hap
  rcases hk with (((hk | hk) | hk) | hk) | hk
  · by_cases h1 : kindOf P y.op = 0 ∨ kindOf P y.op = 1
    · exact comm_11 hij ho.1.1 ho.1.2 hap (.inl hk) h1 l1 l2
    · exact comm_02 hij hap hk ⟨fun h => h1 (.inl h), fun h => h1 (.inr h)⟩ l1 l2
  · by_cases h1 : kindOf P x.op = 0 ∨ kindOf P x.op = 1
    · exact comm_11 hij ho.1.1 ho.1.2 hap h1 (.inl hk) l1 l2
    · exact (comm_02 (Ne.symm hij) hap' hk ⟨fun h => h1 (.inl h), fun h => h1 (.inr h)⟩ l2 l1).symm
  · exact comm_11 hij ho.1.1 ho.1.2 hap (.inr hk.1) (.inr hk.2) l1 l2
  · exact comm_ls hi hj hij hord hap hk.1 hk.2 l1 l2
  · exact (comm_ls hj hi (Ne.symm hij) hordj hap' hk.2 hk.1 l2 l1).symm
end
end Go.Proofs.Ytbbaldhmeifloaa
