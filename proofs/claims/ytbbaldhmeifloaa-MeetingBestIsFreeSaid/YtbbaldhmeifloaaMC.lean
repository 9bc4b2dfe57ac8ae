/- Several texts of this proof in one file. -/
import Derived.Test.YtbbaldhmeifloaaGFu
import Derived.Test.YtbbaldhmeifloaaK0
/- What the pieces of freebusy.Union compute, in plain words. -/
namespace Go.Proofs.Ytbbaldhmeifloaa
open Go.RowKit

abbrev Pd := S58
/-- a period with no instant -/
def badP (p : Pd) : Bool := decide (p.To ≤ p.From)
theorem ubad_sp (a b : Int) : ubad_s a b = some (decide (b ≤ a)) := ubad_eq (by simp [ubad_t, ge_iff_le])
theorem isP2_58 (xs : List Pd) (n : Nat) (h : n < xs.length) : isP [.int .i64, .int .i64] 0 ((ec_58.encL xs).getD n []) = true := by rw [EC.getD_lt _ _ h]; rfl
theorem isP1_58 (xs : List Pd) (n : Nat) (h : n < xs.length) : isP [.int .i64] 1 ((ec_58.encL xs).getD n []) = true := by rw [EC.getD_lt _ _ h]; rfl

theorem uidx_loop (l : List Pd) (hn : l.length ≤ 9223372036854775807) : ∀ (m k : Nat), k + m = l.length →
    (uidx_l2 l l.length k).bind (Sum.elim (fun x => some x.1) (fun _ => some (-1))) = some (gidx badP k (l.drop k)) := by
  intro m
  induction m with
  | zero =>
    intro k hk
    have : k = l.length := by omega
    subst this
    have h1 : uidx_l2 l l.length l.length = some (.inr ((l, (), (l.length : Int), (l.length : Int), false), ())) := uidx_l2_eq (by
      simp only [uidx_l2_t, brE_if, gdE_if, EC.decL_encL, EC.isL_encL, EC.encL_length, isE_58, at_58_0, at_58_1]
      simp)
    rw [h1]
    simp [gidx]
  | succ m ih =>
    intro k hk
    have hlt : k < l.length := by omega
    rw [drop_at hlt, gidx]
    have hk' : (k : Int) < (l.length : Int) := by omega
    by_cases hp : badP l[k] = true
    · have h1 : uidx_l2 l l.length k = some (.inl ((k : Int), ())) := uidx_l2_eq (by
        have hp' := hp
        unfold badP at hp'
        simp only [uidx_l2_t, brE_if, gdE_if, EC.decL_encL, EC.isL_encL, EC.encL_length, isE_58, at_58_0, at_58_1, Int.toNat_natCast, getD_in hlt, ubad_sp, Option.bind_some, hp']
        simp [hlt])
      rw [h1, if_pos hp]
      rfl
    · have h2 := ih (k + 1) (by omega)
      cases hz : uidx_l2 l l.length ((k + 1 : Nat) : Int) with
      | none => rw [hz] at h2; cases h2
      | some r =>
        have h1 : uidx_l2 l l.length k = some r := uidx_l2_eq (by
          have hp' := hp
          unfold badP at hp'
          simp only [uidx_l2_t, brE_if, gdE_if, EC.decL_encL, EC.isL_encL, EC.encL_length, isE_58, at_58_0, at_58_1, Int.toNat_natCast, getD_in hlt, ubad_sp, Option.bind_some, hp', wrap_nat hlt hn, hz]
          simp [hlt])
        rw [if_neg hp, h1]
        rw [hz] at h2
        exact h2
theorem uidx_sp (l : List Pd) (hn : l.length ≤ 9223372036854775807) : uidx_s l = some (gidx badP 0 l) := uidx_eq (by
  have := uidx_loop l hn l.length 0 (by omega)
  simp only [uidx_t, gdE_if, EC.decL_encL, EC.isL_encL, EC.encL_length, if_true]
  exact this)
theorem uclone_sp (l : List Pd) (hn : l.length ≤ 8796093022208) : uclone_s l = some (l.length, l) := by
  cases l with
  | nil => exact uclone_nil
  | cons x xs =>
    refine uclone_eq ?_
    simp only [uclone_t, gdE_if, EC.decL_encL, EC.isL_encL, EC.encL_length, all_58, List.nil_append, EC_empty, Nat.zero_add, List.all_nil]
    simp only [List.length_cons] at hn
    simp
    omega

theorem udel_loop (n : Nat) (hn : n ≤ 9223372036854775807) : ∀ (m i j : Nat) (b : List Pd), j + m = n → i ≤ j → b.length = n → (i < j ∨ m = 0) →
    ∃ b' : List Pd, udel_l5 n i j b = some ((n, (), ((i + ((b.drop j).filter fun p => !badP p).length : Nat) : Int), (n : Int), false), b') ∧ b'.length = n ∧ b'.take (i + ((b.drop j).filter fun p => !badP p).length) = b.take i ++ (b.drop j).filter fun p => !badP p := by
  intro m
  induction m with
  | zero =>
    intro i j b hk hi hl _
    have hj : j = n := by omega
    subst hj
    refine ⟨b, udel_l5_eq ?_, hl, ?_⟩
    · rw [← hl]
      simp only [udel_l5_t, brE_if, gdE_if, EC.decL_encL, EC.isL_encL, EC.encL_length, at_58_0, at_58_1, set_58_0_2]
      simp
    · rw [← hl]; simp
  | succ m ih =>
    intro i j b hk hi hl hij
    have hj : j < b.length := by omega
    have hi' : i < b.length := by omega
    rw [drop_at hj]
    cases hp : badP b[j] with
    | true =>
      have ef : (b[j] :: b.drop (j + 1)).filter (fun p => !badP p) = (b.drop (j + 1)).filter fun p => !badP p := by rw [List.filter_cons, hp]; rfl
      rw [ef]
      obtain ⟨b', h1, h2, h3⟩ := ih i (j + 1) b (by omega) (by omega) hl (by omega)
      refine ⟨b', udel_l5_eq ?_, h2, ?_⟩
      · have hp' := hp
        unfold badP at hp'
        simp only [udel_l5_t, brE_if, gdE_if, EC.decL_encL, EC.isL_encL, EC.encL_length, at_58_0, at_58_1, set_58_0_2, Int.toNat_natCast, getD_in hj, isP2_58 b j hj, len_58 b j hj, ubad_sp, Option.bind_some, hp', wrap_nat (show j < n by omega) hn, h1]
        have c2 : ((j : Nat) : Int) < (n : Int) := by omega
        simp [hj, c2]
      · exact h3
    | false =>
      have ef : (b[j] :: b.drop (j + 1)).filter (fun p => !badP p) = b[j] :: (b.drop (j + 1)).filter fun p => !badP p := by rw [List.filter_cons, hp]; rfl
      rw [ef]
      have hset : (b.set i b[j]).drop (j + 1) = b.drop (j + 1) := by
        apply List.ext_getElem?
        intro q
        rw [List.getElem?_drop, List.getElem?_drop, List.getElem?_set_ne (by omega)]
      obtain ⟨b', h1, h2, h3⟩ := ih (i + 1) (j + 1) (b.set i b[j]) (by omega) (by omega) (by simpa using hl) (by omega)
      rw [hset] at h1 h3
      have htake : (b.set i b[j]).take (i + 1) = b.take i ++ [b[j]] := by
        rw [take_at (by simpa using hi')]
        simp [List.take_set_of_le (Nat.le_refl i)]
      rw [htake] at h3
      have e : i + 1 + ((b.drop (j + 1)).filter fun p => !badP p).length = i + (b[j] :: (b.drop (j + 1)).filter fun p => !badP p).length := by
        rw [List.length_cons]; omega
      rw [e] at h1 h3
      refine ⟨b', udel_l5_eq ?_, h2, ?_⟩
      · have hp' := hp
        unfold badP at hp'
        have hb : ({ b[i] with From := b[j].From, To := b[j].To } : Pd) = b[j] := by cases b[j]; rfl
        have c1 : ((i : Nat) : Int) < (n : Int) := by omega
        have c2 : ((j : Nat) : Int) < (n : Int) := by omega
        simp only [udel_l5_t, brE_if, gdE_if, EC.decL_encL, EC.isL_encL, EC.encL_length, at_58_0, at_58_1, set_58_0_2, Int.toNat_natCast, getD_in hj, isP2_58 b j hj, len_58 b j hj, len_58 b i hi', ubad_sp, Option.bind_some, hp', wrap_nat (show j < n by omega) hn, wrap_nat (show i < n by omega) hn, hb, h1]
        simp [hj, hi', c1, c2]
      · rw [h3, List.append_assoc]; rfl
end Go.Proofs.Ytbbaldhmeifloaa
/- Periods in plain words: unions, gaps, pieces between bounds. -/
namespace Go.Proofs.Ytbbaldhmeifloaa
open Go.RowKit

/-- periods in order, none empty, none touching the next -/
def NF : List Pd → Prop
  | [] => True
  | p :: l => p.From < p.To ∧ (∀ q ∈ l, p.To < q.From) ∧ NF l
def Inn (l : List Pd) (x : Int) : Prop := ∃ p ∈ l, p.From ≤ x ∧ x < p.To
theorem Inn_nil (x : Int) : Inn [] x ↔ False := by simp [Inn]
theorem Inn_cons (p : Pd) (l : List Pd) (x : Int) : Inn (p :: l) x ↔ (p.From ≤ x ∧ x < p.To) ∨ Inn l x := by simp [Inn]
theorem Inn_append (a b : List Pd) (x : Int) : Inn (a ++ b) x ↔ Inn a x ∨ Inn b x := by
  induction a with
  | nil => simp [Inn_nil]
  | cons p a ih => simp only [List.cons_append, Inn_cons, ih, or_assoc]
theorem NF_ext : ∀ {a b : List Pd}, NF a → NF b → (∀ x, Inn a x ↔ Inn b x) → a = b
  | [], [], _, _, _ => rfl
  | [], q :: b, _, h, e => by
    have := (e q.From).2 ((Inn_cons _ _ _).2 (.inl ⟨Int.le_refl _, h.1⟩))
    simp [Inn_nil] at this
  | p :: a, [], h, _, e => by
    have := (e p.From).1 ((Inn_cons _ _ _).2 (.inl ⟨Int.le_refl _, h.1⟩))
    simp [Inn_nil] at this
  | p :: a, q :: b, ha, hb, e => by
    have lo : ∀ {p : Pd} {a : List Pd} {x : Int}, NF (p :: a) → Inn (p :: a) x → (p.From ≤ x ∧ x < p.To) ∨ (p.To < x ∧ Inn a x) := by
      intro p a x h hx
      rcases (Inn_cons _ _ _).1 hx with h1 | h1
      · exact .inl h1
      · obtain ⟨r, hr, h2⟩ := h1
        have := h.2.1 r hr
        exact .inr ⟨by omega, r, hr, h2⟩
    have hpf : Inn (p :: a) p.From := (Inn_cons _ _ _).2 (.inl ⟨Int.le_refl _, ha.1⟩)
    have hqf : Inn (q :: b) q.From := (Inn_cons _ _ _).2 (.inl ⟨Int.le_refl _, hb.1⟩)
    have h1 := lo hb ((e _).1 hpf)
    have h2 := lo ha ((e _).2 hqf)
    have ha1 := ha.1
    have hb1 := hb.1
    have ef : p.From = q.From := by omega
    have et : p.To = q.To := by
      rcases Int.lt_trichotomy p.To q.To with h | h | h
      · have := lo ha ((e p.To).2 ((Inn_cons _ _ _).2 (.inl ⟨by omega, h⟩)))
        omega
      · exact h
      · have := lo hb ((e q.To).1 ((Inn_cons _ _ _).2 (.inl ⟨by omega, h⟩)))
        omega
    have epq : p = q := by cases p; cases q; simp_all
    subst epq
    have : a = b := NF_ext ha.2.2 hb.2.2 fun x => by
      constructor
      · intro hx
        obtain ⟨r, hr, h3⟩ := hx
        have h4 := ha.2.1 r hr
        have := lo hb ((e x).1 ((Inn_cons _ _ _).2 (.inr ⟨r, hr, h3⟩)))
        rcases this with h5 | h5
        · omega
        · exact h5.2
      · intro hx
        obtain ⟨r, hr, h3⟩ := hx
        have h4 := hb.2.1 r hr
        have := lo ha ((e x).2 ((Inn_cons _ _ _).2 (.inr ⟨r, hr, h3⟩)))
        rcases this with h5 | h5
        · omega
        · exact h5.2
    rw [this]
theorem NF_append {a b : List Pd} : NF (a ++ b) ↔ NF a ∧ NF b ∧ ∀ p ∈ a, ∀ q ∈ b, p.To < q.From := by
  induction a with
  | nil => simp [NF]
  | cons p a ih =>
    simp only [List.cons_append, NF, ih, List.mem_append, List.mem_cons]
    constructor
    · rintro ⟨h1, h2, h3, h4, h5⟩
      exact ⟨⟨h1, fun q hq => h2 q (.inl hq), h3⟩, h4, fun r hr q hq => hr.elim (fun e => e ▸ h2 q (.inr hq)) (fun hr => h5 r hr q hq)⟩
    · rintro ⟨⟨h1, h2, h3⟩, h4, h5⟩
      exact ⟨h1, fun q hq => hq.elim (h2 q) (fun hq => h5 p (.inl rfl) q hq), h3, h4, fun r hr => h5 r (.inr hr)⟩

/-- one more period: it is united with the last one if they touch -/
def stepU (out : List Pd) (p : Pd) : List Pd :=
  match out.getLast? with
  | some q => if p.From ≤ q.To then out.dropLast ++ [⟨q.From, max q.To p.To⟩] else out ++ [p]
  | none => [p]
def mergeU (out : List Pd) (l : List Pd) : List Pd := l.foldl stepU out
/-- what is gone through, in the order of the beginnings -/
def SortedF : List Pd → Prop
  | [] => True
  | p :: l => (∀ q ∈ l, p.From ≤ q.From) ∧ SortedF l
theorem mergeU_ok : ∀ (l out : List Pd), (∀ p ∈ l, p.From < p.To) → SortedF l → NF out → (∀ q ∈ out, ∀ p ∈ l, q.From ≤ p.From) → NF (mergeU out l) ∧ ∀ x, Inn (mergeU out l) x ↔ Inn out x ∨ Inn l x
  | [], out, _, _, ho, _ => ⟨ho, fun x => by simp [mergeU, Inn_nil]⟩
  | p :: l, out, hl, hs, ho, hol => by
    have hp := hl p (by simp)
    have key : NF (stepU out p) ∧ (∀ x, Inn (stepU out p) x ↔ Inn out x ∨ (p.From ≤ x ∧ x < p.To)) ∧ ∀ q ∈ stepU out p, ∀ r ∈ l, q.From ≤ r.From := by
      unfold stepU
      cases hq : out.getLast? with
      | none =>
        have : out = [] := by simpa using hq
        subst this
        refine ⟨⟨hp, by simp, trivial⟩, fun x => by simp [Inn], fun q hq r hr => ?_⟩
        simp at hq; subst hq
        exact hs.1 r hr
      | some q =>
        obtain ⟨ys, rfl⟩ := List.getLast?_eq_some_iff.1 hq
        have hqm := hol q (by simp) p (by simp)
        obtain ⟨n1, n2, n3⟩ := NF_append.1 ho
        simp only [List.dropLast_concat]
        split
        · rename_i hle
          have n4 := n2.1
          refine ⟨NF_append.2 ⟨n1, ⟨by show q.From < max q.To p.To; omega, by simp, trivial⟩, fun a ha b hb => ?_⟩, fun x => ?_, fun a ha r hr => ?_⟩
          · simp at hb; subst hb
            exact n3 a ha q (by simp)
          · simp only [Inn_append, Inn_cons, Inn_nil, or_false]
            constructor
            · rintro (h | h)
              · exact .inl (.inl h)
              · by_cases hx : x < q.To
                · exact .inl (.inr ⟨h.1, hx⟩)
                · exact .inr ⟨by omega, by have := h.2; first | omega | (simp only at this; omega)⟩
            · rintro ((h | h) | h)
              · exact .inl h
              · exact .inr ⟨h.1, by first | omega | (simp only; omega)⟩
              · exact .inr ⟨by first | omega | (simp only; omega), by first | omega | (simp only; omega)⟩
          · simp only [List.mem_append, List.mem_singleton] at ha
            rcases ha with ha | ha
            · exact hol a (by simp [ha]) r (by simp [hr])
            · subst ha
              exact hol q (by simp) r (by simp [hr])
        · rename_i hle
          refine ⟨NF_append.2 ⟨ho, ⟨hp, by simp, trivial⟩, fun a ha b hb => ?_⟩, fun x => ?_, fun a ha r hr => ?_⟩
          · simp at hb; subst hb
            simp only [List.mem_append, List.mem_singleton] at ha
            rcases ha with ha | ha
            · have := n3 a ha q (by simp)
              have := n2.1
              omega
            · subst ha; omega
          · simp only [Inn_append, Inn_cons, Inn_nil, or_false]
          · simp only [List.mem_append, List.mem_singleton] at ha
            rcases ha with ha | ha
            · exact hol a (by simpa using ha) r (by simp [hr])
            · subst ha
              exact hs.1 r hr
    obtain ⟨k1, k2, k3⟩ := key
    obtain ⟨m1, m2⟩ := mergeU_ok l (stepU out p) (fun r hr => hl r (by simp [hr])) hs.2 k1 k3
    refine ⟨m1, fun x => ?_⟩
    show Inn (mergeU (stepU out p) l) x ↔ _
    rw [m2, k2, Inn_cons, or_assoc]
/-- pieces between bounds, united where they touch -/
def stepW (out : List Pd) (a c : Int) : List Pd :=
  match out.getLast? with
  | some q => if q.To = a then out.dropLast ++ [⟨q.From, c⟩] else out ++ [⟨a, c⟩]
  | none => [⟨a, c⟩]
def wiU (pb : Int → Bool) : List Pd → List Int → List Pd
  | out, a :: c :: r => wiU pb (if pb a then stepW out a c else out) (c :: r)
  | out, _ => out
/-- strictly rising -/
def Rise : List Int → Prop
  | a :: c :: r => a < c ∧ Rise (c :: r)
  | _ => True
/-- between neighbours P is as at the first -/
def Seg (P : Int → Prop) (pb : Int → Bool) : List Int → Prop
  | a :: c :: r => (∀ x, a ≤ x → x < c → (P x ↔ pb a = true)) ∧ Seg P pb (c :: r)
  | _ => True
theorem stepW_ok {out : List Pd} {a c : Int} (hac : a < c) (ho : NF out) (hl : ∀ q ∈ out, q.To ≤ a) : NF (stepW out a c) ∧ (∀ q ∈ stepW out a c, q.To ≤ c) ∧ ∀ x, Inn (stepW out a c) x ↔ Inn out x ∨ (a ≤ x ∧ x < c) := by
  unfold stepW
  cases hq : out.getLast? with
  | none =>
    have : out = [] := by simpa using hq
    subst this
    exact ⟨⟨hac, by simp, trivial⟩, fun q hq => by simp at hq; subst hq; exact Int.le_refl _, fun x => by simp [Inn]⟩
  | some q =>
    obtain ⟨ys, rfl⟩ := List.getLast?_eq_some_iff.1 hq
    obtain ⟨n1, n2, n3⟩ := NF_append.1 ho
    have hqa := hl q (by simp)
    have n4 := n2.1
    simp only [List.dropLast_concat]
    split
    · rename_i e
      refine ⟨NF_append.2 ⟨n1, ⟨by show q.From < c; omega, by simp, trivial⟩, fun a ha b hb => ?_⟩, fun r hr => ?_, fun x => ?_⟩
      · simp at hb; subst hb
        exact n3 a ha q (by simp)
      · simp only [List.mem_append, List.mem_singleton] at hr
        rcases hr with hr | hr
        · have := hl r (by simp [hr]); omega
        · subst hr; exact Int.le_refl _
      · simp only [Inn_append, Inn_cons, Inn_nil, or_false]
        constructor
        · rintro (h | h)
          · exact .inl (.inl h)
          · by_cases hx : x < q.To
            · exact .inl (.inr ⟨h.1, hx⟩)
            · exact .inr ⟨by omega, h.2⟩
        · rintro ((h | h) | h)
          · exact .inl h
          · exact .inr ⟨h.1, by first | omega | (simp only; omega)⟩
          · exact .inr ⟨by first | omega | (simp only; omega), h.2⟩
    · rename_i e
      refine ⟨NF_append.2 ⟨ho, ⟨hac, by simp, trivial⟩, fun r hr b hb => ?_⟩, fun r hr => ?_, fun x => ?_⟩
      · simp at hb; subst hb
        simp only [List.mem_append, List.mem_singleton] at hr
        show r.To < a
        rcases hr with hr | hr
        · have := n3 r hr q (by simp); omega
        · subst hr; omega
      · simp only [List.mem_append, List.mem_singleton] at hr
        rcases hr with hr | hr
        · have := hl r (by simpa using hr); omega
        · subst hr; exact Int.le_refl _
      · simp only [Inn_append, Inn_cons, Inn_nil, or_false]
def lastD : Int → List Int → Int
  | a, [] => a
  | _, c :: r => lastD c r
theorem wiU_ok {P : Int → Prop} {pb : Int → Bool} : ∀ (r : List Int) (a : Int) (out : List Pd), Rise (a :: r) → Seg P pb (a :: r) → NF out → (∀ q ∈ out, q.To ≤ a) →
    NF (wiU pb out (a :: r)) ∧ ∀ x, Inn (wiU pb out (a :: r)) x ↔ Inn out x ∨ (a ≤ x ∧ x < lastD a r ∧ P x)
  | [], a, out, _, _, ho, _ => ⟨ho, fun x => by
      simp only [wiU, lastD]
      constructor
      · exact .inl
      · rintro (h | h)
        · exact h
        · omega⟩
  | c :: r, a, out, hr, hs, ho, hl => by
    have hac : a < c := hr.1
    have hlast : ∀ (r : List Int) (c : Int), Rise (c :: r) → c ≤ lastD c r := by
      intro r
      induction r with
      | nil => intro c _; exact Int.le_refl _
      | cons d r ih => intro c h; have := ih d h.2; have := h.1; simp only [lastD]; omega
    have hlc := hlast r c hr.2
    cases hp : pb a with
    | true =>
      obtain ⟨s1, s2, s3⟩ := stepW_ok hac ho hl
      obtain ⟨t1, t2⟩ := wiU_ok r c (stepW out a c) hr.2 hs.2 s1 s2
      simp only [wiU, hp, if_true, lastD]
      refine ⟨t1, fun x => ?_⟩
      rw [t2, s3, or_assoc]
      have := hs.1 x
      rw [hp] at this
      constructor
      · rintro (h | h | h)
        · exact .inl h
        · exact .inr ⟨h.1, by omega, (this h.1 h.2).2 rfl⟩
        · exact .inr ⟨by omega, h.2.1, h.2.2⟩
      · rintro (h | h)
        · exact .inl h
        · by_cases hx : x < c
          · exact .inr (.inl ⟨h.1, hx⟩)
          · exact .inr (.inr ⟨by omega, h.2.1, h.2.2⟩)
    | false =>
      obtain ⟨t1, t2⟩ := wiU_ok r c out hr.2 hs.2 ho (fun q hq => by have := hl q hq; omega)
      simp only [wiU, hp, Bool.false_eq_true, if_false, lastD]
      refine ⟨t1, fun x => ?_⟩
      rw [t2]
      have := hs.1 x
      rw [hp] at this
      constructor
      · rintro (h | h)
        · exact .inl h
        · exact .inr ⟨by omega, h.2.1, h.2.2⟩
      · rintro (h | h)
        · exact .inl h
        · by_cases hx : x < c
          · exact absurd ((this h.1 hx).1 h.2.2) (by simp)
          · exact .inr ⟨by omega, h.2.1, h.2.2⟩

/-- the gaps between periods in order, from an instant on -/
def gp (til len : Int) : Int → List Pd → List Pd
  | at', [] => if len ≤ til - at' then [⟨at', til⟩] else []
  | at', p :: l => (if len ≤ min p.From til - at' then [⟨at', min p.From til⟩] else []) ++ gp til len (max at' p.To) l
theorem gp_from {til len : Int} : ∀ (l : List Pd) (a : Int), ∀ q ∈ gp til len a l, a ≤ q.From ∧ q.To ≤ til ∧ len ≤ q.To - q.From
  | [], a, q, hq => by
    simp only [gp] at hq
    split at hq
    · simp at hq; subst hq; exact ⟨Int.le_refl _, Int.le_refl _, by assumption⟩
    · simp at hq
  | p :: l, a, q, hq => by
    simp only [gp, List.mem_append] at hq
    rcases hq with hq | hq
    · split at hq
      · simp at hq; subst hq; exact ⟨Int.le_refl _, by first | omega | (simp only; omega), by assumption⟩
      · simp at hq
    · have := gp_from l _ q hq
      exact ⟨by omega, this.2⟩
theorem gp_ok {til : Int} : ∀ (l : List Pd) (a : Int), NF l → NF (gp til 1 a l) ∧ ∀ x, Inn (gp til 1 a l) x ↔ a ≤ x ∧ x < til ∧ ¬ Inn l x
  | [], a, _ => by
    simp only [gp]
    split
    · exact ⟨⟨by show a < til; omega, by simp, trivial⟩, fun x => by simp [Inn]⟩
    · exact ⟨trivial, fun x => by simp [Inn]; omega⟩
  | p :: l, a, h => by
    obtain ⟨h1, h2, h3⟩ := h
    obtain ⟨g1, g2⟩ := gp_ok (til := til) l (max a p.To) h3
    have key : ∀ x, Inn l x → p.To < x := fun x ⟨r, hr, hx⟩ => by have := h2 r hr; omega
    simp only [gp]
    split
    · rename_i hle
      refine ⟨NF_append.2 ⟨⟨by show a < min p.From til; omega, by simp, trivial⟩, g1, fun q hq r hr => ?_⟩, fun x => ?_⟩
      · simp at hq; subst hq
        have := (gp_from l _ r hr).1
        simp only; omega
      · rw [Inn_append, g2]
        simp only [Inn_cons, Inn_nil, or_false]
        constructor
        · rintro (h | h)
          · refine ⟨h.1, by omega, ?_⟩
            rintro (h' | h')
            · omega
            · have := key x h'; omega
          · exact ⟨by omega, h.2.1, by rintro (h' | h'); omega; exact h.2.2 h'⟩
        · rintro ⟨ha, hb, hc⟩
          by_cases hx : x < p.From
          · exact .inl ⟨ha, by omega⟩
          · refine .inr ⟨?_, hb, fun h' => hc (.inr h')⟩
            have : ¬ x < p.To := fun h' => hc (.inl ⟨by omega, h'⟩)
            omega
    · rename_i hle
      refine ⟨g1, fun x => ?_⟩
      rw [List.nil_append, g2]
      simp only [Inn_cons]
      constructor
      · rintro h
        exact ⟨by omega, h.2.1, by rintro (h' | h'); omega; exact h.2.2 h'⟩
      · rintro ⟨ha, hb, hc⟩
        refine ⟨?_, hb, fun h' => hc (.inr h')⟩
        by_cases hx : x < p.From
        · omega
        · have : ¬ x < p.To := fun h' => hc (.inl ⟨by omega, h'⟩)
          omega
theorem gp_len {til len : Int} (hl : 1 ≤ len) : ∀ (l : List Pd) (a : Int), gp til len a l = (gp til 1 a l).filter fun q => decide (len ≤ q.To - q.From)
  | [], a => by
    simp only [gp]
    by_cases h : len ≤ til - a
    · rw [if_pos h, if_pos (by omega)]; simp [h]
    · rw [if_neg h]; split <;> simp [h]
  | p :: l, a => by
    simp only [gp, List.filter_append, gp_len hl l]
    congr 1
    by_cases h : len ≤ min p.From til - a
    · rw [if_pos h, if_pos (by omega)]; simp only [List.filter_cons, List.filter_nil]; simp [h]
    · rw [if_neg h]; split <;> simp only [List.filter_cons, List.filter_nil] <;> simp [h]
def sumL (l : List Pd) : Int := (l.map fun q => q.To - q.From).sum
def clip (a til : Int) (l : List Pd) : Int := (l.map fun q => max 0 (min q.To til - max q.From a)).sum
theorem gp_sum {til : Int} : ∀ (l : List Pd) (a : Int), NF l → sumL (gp til 1 a l) + clip a til l = max 0 (til - a)
  | [], a, _ => by
    simp only [gp, sumL, clip]
    split
    · simp; omega
    · simp; omega
  | p :: l, a, h => by
    obtain ⟨h1, h2, h3⟩ := h
    have ih := gp_sum (til := til) l (max a p.To) h3
    have e : clip (max a p.To) til l = clip a til l := by
      unfold clip
      congr 1
      apply List.map_congr_left
      intro q hq
      have := h2 q hq
      have : max q.From (max a p.To) = max q.From a := by omega
      rw [this]
    rw [e] at ih
    have e1 : ∀ x y : List Pd, sumL (x ++ y) = sumL x + sumL y := fun x y => by simp [sumL]
    have e2 : clip a til (p :: l) = max 0 (min p.To til - max p.From a) + clip a til l := by simp [clip]
    simp only [gp, e1, e2]
    split
    · have : sumL [⟨a, min p.From til⟩] = min p.From til - a := by simp [sumL]
      rw [this]; omega
    · have : sumL [] = 0 := rfl
      rw [this]; omega
end Go.Proofs.Ytbbaldhmeifloaa
/- The merging loop of freebusy.Union, in plain words. -/
namespace Go.Proofs.Ytbbaldhmeifloaa
open Go.RowKit

theorem stepU_length (out : List Pd) (p : Pd) : (stepU out p).length ≤ out.length + 1 := by
  unfold stepU
  cases hq : out.getLast? with
  | none => simp
  | some q =>
    obtain ⟨ys, rfl⟩ := List.getLast?_eq_some_iff.1 hq
    simp only [List.dropLast_concat]
    split <;> simp
theorem union_loop (l : List Pd) (hn : l.length ≤ 1000000000) : ∀ (m k : Nat) (b : List Pd), k + m = l.length → b.length ≤ k →
    union_l5 b.length l l.length k b = some (((mergeU b (l.drop k)).length, l, (l.length : Int), (l.length : Int), false), mergeU b (l.drop k)) := by
  intro m
  induction m with
  | zero =>
    intro k b hk hb
    have : k = l.length := by omega
    subst this
    refine union_l5_eq ?_
    simp only [union_l5_t, brE_if, gdE_if, EC.decL_encL, EC.isL_encL, EC.encL_length, isE_58, at_58_0, at_58_1, all_58, apd_58, set_58_1_1]
    simp [mergeU]
  | succ m ih =>
    intro k b hk hb
    have hlt : k < l.length := by omega
    have hk' : (k : Int) < (l.length : Int) := by omega
    have hs := stepU_length b l[k]
    have h1 := ih (k + 1) (stepU b l[k]) (by omega) (by omega)
    have e : mergeU b (l.drop k) = mergeU (stepU b l[k]) (l.drop (k + 1)) := by rw [drop_at hlt]; rfl
    rw [e]
    refine union_l5_eq ?_
    cases hq : b.getLast? with
    | none =>
      have : b = [] := by simpa using hq
      subst this
      have e1 : stepU [] l[k] = [l[k]] := rfl
      rw [e1] at h1 ⊢
      have hw : IntKind.i64.wrap (((0 : Nat) : Int) - 1) = -1 := rfl
      simp only [union_l5_t, brE_if, gdE_if, EC.decL_encL, EC.isL_encL, EC.encL_length, isE_58, at_58_0, at_58_1, all_58, apd_58, set_58_1_1, Int.toNat_natCast, getD_in hlt, List.length_nil, hw, wrap_nat hlt (show l.length ≤ 9223372036854775807 by omega)]
      have e2 : ({ From := l[k].From, To := l[k].To } : Pd) = l[k] := rfl
      simp only [e2, List.nil_append]
      simp only [List.length_cons, List.length_nil] at h1
      simp only [Nat.zero_add] at h1
      simp [hlt]
      rw [← h1]
      norm_cast
    | some q =>
      obtain ⟨ys, rfl⟩ := List.getLast?_eq_some_iff.1 hq
      simp only [List.length_append, List.length_cons, List.length_nil] at hb
      have hw : IntKind.i64.wrap ((((ys ++ [q]).length : Nat) : Int) - 1) = (ys.length : Int) := by
        rw [wrap_in (by simp) (by simp; omega)]; simp
      have hyl : ys.length < (ys ++ [q]).length := by simp
      have hg : (ys ++ [q])[ys.length]'hyl = q := by simp
      simp only [union_l5_t, brE_if, gdE_if, EC.decL_encL, EC.isL_encL, EC.encL_length, isE_58, at_58_0, at_58_1, all_58, apd_58, set_58_1_1, Int.toNat_natCast, getD_in hlt, hw, wrap_nat hlt (show l.length ≤ 9223372036854775807 by omega), getD_in hyl, hg, len_58 _ _ hyl, isP1_58 _ _ hyl]
      have c1 : (ys.length : Int) < (((ys ++ [q]).length : Nat) : Int) := by omega
      by_cases hle : l[k].From ≤ q.To
      · have e1 : stepU (ys ++ [q]) l[k] = ys ++ [⟨q.From, max q.To l[k].To⟩] := by simp [stepU, hle]
        have e2 : (ys ++ [q]).set ys.length ⟨q.From, if q.To < l[k].To then l[k].To else q.To⟩ = ys ++ [⟨q.From, max q.To l[k].To⟩] := by
          rw [List.set_append_right _ _ (Nat.le_refl _)]
          have : (if q.To < l[k].To then l[k].To else q.To) = max q.To l[k].To := by split <;> omega
          simp [this]
        have e3 : (ys ++ [(⟨q.From, max q.To l[k].To⟩ : Pd)]).length = (ys ++ [q]).length := by simp
        rw [e1] at h1 ⊢
        rw [e3] at h1
        simp only [hle, hk', hlt, hyl, c1, if_true, decide_true, Bool.and_self, Int.natCast_nonneg, e2, h1, ge_iff_le, beq_self_eq_true]
      · have e1 : stepU (ys ++ [q]) l[k] = ys ++ [q] ++ [l[k]] := by simp [stepU, hle]
        have e2 : ({ From := l[k].From, To := l[k].To } : Pd) = l[k] := rfl
        have e3 : (ys ++ [q] ++ [l[k]]).length = (ys ++ [q]).length + [[C.int IntKind.i64 l[k].From, C.int IntKind.i64 l[k].To]].length := by simp
        have e4 : (((ys ++ [q]).length + [[C.int IntKind.i64 l[k].From, C.int IntKind.i64 l[k].To]].length) + ((ys ++ [q]).length + [[C.int IntKind.i64 l[k].From, C.int IntKind.i64 l[k].To]].length) / 4 + 192) * 16 ≤ 281474976710656 := by simp; omega
        have e5 : (ys ++ [q]).length + [[C.int IntKind.i64 l[k].From, C.int IntKind.i64 l[k].To]].length ≤ 9223372036854775807 := by simp; omega
        rw [e1] at h1 ⊢
        rw [e3] at h1
        simp only [hle, hk', hlt, hyl, c1, if_true, decide_true, decide_false, Bool.and_self, Int.natCast_nonneg, e2, ge_iff_le, beq_self_eq_true, Bool.false_eq_true, if_false, List.all_cons, List.all_nil, List.length_cons, List.length_nil]
        simp only [List.length_append, List.length_cons, List.length_nil, Int.natCast_add, List.append_assoc, List.cons_append, List.nil_append, Nat.zero_add, Int.natCast_one] at h1 ⊢
        simp only [h1]
        simp
        omega
theorem union_g3_sp (l : List Pd) (hn : l.length ≤ 1000000000) : union_g3 l = some ((mergeU [] l).length, mergeU [] l) := union_g3_eq (by
  have h := union_loop l hn l.length 0 [] (by omega) (by simp)
  rw [List.drop_zero] at h
  simp only [List.length_nil, Int.natCast_zero] at h
  simp only [union_g3_t, gdE_if, EC.decL_encL, EC.isL_encL, EC.encL_length, EC_nilD, if_true, h, Option.bind_some])
end Go.Proofs.Ytbbaldhmeifloaa
