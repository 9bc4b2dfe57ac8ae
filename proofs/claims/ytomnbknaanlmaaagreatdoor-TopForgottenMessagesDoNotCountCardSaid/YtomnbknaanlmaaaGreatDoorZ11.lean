/- What Validate and common ask, in plain words. -/
import Derived.Test.YtomnbknaanlmaaaGreatDoorZ10
import Derived.Test.YtomnbknaanlmaaaGreatDoorZ09
namespace Go.Proofs.YtomnbknaanlmaaaGreatDoor
open Go.RowKit
structure VOk (G J : Int) (T : List S74) : Prop where
  g : 0 ≤ G ∧ G ≤ 1000000
  j : 0 ≤ J ∧ J ≤ 1000000
  len : T.length ≤ 2000
  nam : ∀ e ∈ T, namB e.Text = true
  bd : Bd T G J
  srt : srt T
theorem vL_zero (G J : Int) (T : List S74) : ∀ (m k : Nat), k + m = T.length → ((vL G J T m k).1 = 0 ↔ ∀ i (h : i < T.length), k ≤ i → badE G J T[i] = 0 ∧ (0 < i → notLt (T.getD (i - 1) ⟨⟨#[]⟩, 0, 0⟩).Text T[i].Text = false))
  | 0, k, hk => by
    simp only [vL, true_iff]
    intro i h1 h2
    omega
  | m + 1, k, hk => by
    have hlt : k < T.length := by omega
    have hg : T.getD k ⟨⟨#[]⟩, 0, 0⟩ = T[k] := getD_in hlt
    have ih := vL_zero G J T m (k + 1) (by omega)
    rw [vL, hg]
    by_cases h1 : badE G J T[k] = 0
    · rw [if_neg (by simp [h1])]
      by_cases h2 : 0 < k ∧ notLt (T.getD (k - 1) ⟨⟨#[]⟩, 0, 0⟩).Text T[k].Text = true
      · rw [if_pos h2]
        constructor
        · intro h; simp at h
        · intro h
          have := (h k hlt (Nat.le_refl _)).2 h2.1
          rw [h2.2] at this; cases this
      · rw [if_neg h2, ih]
        constructor
        · intro h i hi hki
          rcases Nat.eq_or_lt_of_le hki with e | e
          · subst e
            refine ⟨h1, fun h0 => ?_⟩
            cases hn : notLt (T.getD (k - 1) ⟨⟨#[]⟩, 0, 0⟩).Text T[k].Text with
            | false => rfl
            | true => exact absurd ⟨h0, hn⟩ h2
          · exact h i hi e
        · intro h i hi hki
          exact h i hi (by omega)
    · rw [if_pos (by simpa using h1)]
      constructor
      · intro h; exact absurd h h1
      · intro h; exact absurd (h k hlt (Nat.le_refl _)).1 h1
theorem badE_zero {G J : Int} (hG : G ≤ 1000000) (hJ : J ≤ 1000000) (e : S74) : badE G J e = 0 ↔ namB e.Text = true ∧ 0 ≤ e.Good ∧ e.Good ≤ G ∧ 0 ≤ e.Junk ∧ e.Junk ≤ J ∧ e.Good + e.Junk ≠ 0 := by
  unfold badE inB
  by_cases h1 : namB e.Text = true
  · rw [if_pos h1]
    by_cases h2 : (0 ≤ e.Good ∧ e.Good ≤ G) ∧ (0 ≤ e.Junk ∧ e.Junk ≤ J)
    · have hw : IntKind.i64.wrap (e.Good + e.Junk) = e.Good + e.Junk := wr_in (by omega)
      rw [hw]
      by_cases h3 : e.Good + e.Junk = 0
      · simp [h3]
      · simp [h1, h2.1, h2.2, h3]
    · constructor
      · intro h
        exfalso
        apply h2
        split at h
        · rename_i h3
          simp only [Bool.and_eq_true, decide_eq_true_eq] at h3
          exact ⟨h3.1, h3.2.1⟩
        · simp at h
      · intro h
        exact absurd ⟨⟨h.2.1, h.2.2.1⟩, h.2.2.2.1, h.2.2.2.2.1⟩ h2
  · rw [if_neg h1]
    constructor
    · intro h; simp at h
    · intro h; exact absurd h.1 h1
theorem adj_srt : ∀ {T : List S74}, (∀ i (h : i < T.length), 0 < i → notLt (T.getD (i - 1) ⟨⟨#[]⟩, 0, 0⟩).Text T[i].Text = false) ↔ srt T := by
  intro T
  constructor
  · intro h
    have adj : ∀ i (h1 : i + 1 < T.length), ltK (ky T[i]) (ky T[i + 1]) = true := fun i h1 => by
      have := h (i + 1) h1 (by omega)
      have e : T.getD (i + 1 - 1) ⟨⟨#[]⟩, 0, 0⟩ = T[i] := getD_in (by omega)
      rw [e] at this
      simpa [notLt] using this
    refine List.pairwise_iff_getElem.2 fun i j hi hj hij => ?_
    induction j with
    | zero => omega
    | succ j ih =>
      rcases Nat.eq_or_lt_of_le (Nat.le_of_lt_succ hij) with e | e
      · subst e; exact adj i hj
      · exact ltK_trans (ih (by omega) e) (adj j hj)
  · intro h i hi h0
    have e : T.getD (i - 1) ⟨⟨#[]⟩, 0, 0⟩ = T[i - 1] := getD_in (by omega)
    rw [e]
    have := List.pairwise_iff_getElem.1 h (i - 1) i (by omega) hi (by omega)
    simp [notLt, this]
theorem valF_ok (G J : Int) (T : List S74) : (valF G J T).1 = 0 ↔ VOk G J T := by
  unfold valF
  by_cases h1 : inB G 1000000 = true ∧ inB J 1000000 = true
  · rw [if_pos h1]
    simp only [inB, Bool.and_eq_true, decide_eq_true_eq] at h1
    by_cases h2 : T.length ≤ 2000
    · rw [if_pos h2, vL_zero G J T T.length 0 (by omega)]
      constructor
      · intro h
        have hb := fun i hi => (badE_zero h1.1.2 h1.2.2 T[i]).1 (h i hi (Nat.zero_le _)).1
        have hall : ∀ e ∈ T, namB e.Text = true ∧ 0 ≤ e.Good ∧ e.Good ≤ G ∧ 0 ≤ e.Junk ∧ e.Junk ≤ J ∧ e.Good + e.Junk ≠ 0 := fun e he => by
          obtain ⟨i, hi, rfl⟩ := List.getElem_of_mem he
          exact hb i hi
        exact ⟨h1.1, h1.2, h2, fun e he => (hall e he).1, ⟨h1.1.1, h1.2.1, fun e he => (hall e he).2⟩, adj_srt.1 fun i hi h0 => (h i hi (Nat.zero_le _)).2 h0⟩
      · intro h i hi _
        refine ⟨(badE_zero h1.1.2 h1.2.2 _).2 ⟨h.nam _ (List.getElem_mem hi), h.bd.all _ (List.getElem_mem hi)⟩, adj_srt.2 h.srt i hi⟩
    · rw [if_neg h2]
      constructor
      · intro h; simp at h
      · intro h; exact absurd h.len h2
  · rw [if_neg h1]
    constructor
    · intro h; simp at h
    · intro h
      exfalso
      apply h1
      simp only [inB, Bool.and_eq_true, decide_eq_true_eq]
      exact ⟨h.g, h.j⟩
end Go.Proofs.YtomnbknaanlmaaaGreatDoor
namespace Go.Proofs.YtomnbknaanlmaaaGreatDoor
open Go.RowKit
def KG (K : List ByteArray) (k : Nat) : Prop := ∀ i (h : i < K.length), k ≤ i → namB K[i] = true ∧ (0 < i → notLt (K.getD (i - 1) ⟨#[]⟩) K[i] = false)
theorem KG_step {K : List ByteArray} {k : Nat} (h : k < K.length) : KG K k ↔ (namB K[k] = true ∧ (0 < k → notLt (K.getD (k - 1) ⟨#[]⟩) K[k] = false)) ∧ KG K (k + 1) := by
  constructor
  · intro q
    exact ⟨q k h (Nat.le_refl _), fun i hi hk => q i hi (by omega)⟩
  · rintro ⟨q1, q2⟩ i hi hk
    rcases Nat.eq_or_lt_of_le hk with e | e
    · subst e; exact q1
    · exact q2 i hi e
theorem com_loop (K : List ByteArray) (hK : K.length ≤ 1000) : ∀ (m k : Nat), k + m = K.length →
    Ok (classify_common_l7 K K (K.length : Int) (k : Int) 0 0) fun x => Sum.elim (fun r => r.2.1 ≠ 0 ∧ ¬ KG K k) (fun _ => KG K k) x := by
  intro m
  induction m with
  | zero =>
    intro k hk
    refine .via classify_common_l7_eq ?_
    unfold classify_common_l7_t
    simp only [EC.decL_encL, EC.isL_encL, EC.encL_length, isE_9, at_9_0]
    refine ok_br (fun h => absurd (of_decide_eq_true h) (by omega)) (fun _ => ok_gd rfl (ok_gd rfl (ok_some ?_)))
    intro i hi hki
    omega
  | succ m ih =>
    intro k hk
    have hlt : k < K.length := by omega
    have e2 : IntKind.i64.wrap ((k : Int) + 1) = ((k + 1 : Nat) : Int) := wr_nat hlt (by omega)
    have hg : ∀ d, K.getD k d = K[k] := fun d => getD_in hlt
    have ih := ih (k + 1) (by omega)
    have hst := KG_step hlt
    refine .via classify_common_l7_eq ?_
    unfold classify_common_l7_t
    simp only [EC.decL_encL, EC.isL_encL, EC.encL_length, isE_9, at_9_0, Int.toNat_natCast, hg, e2]
    refine ok_br (fun h => ?_) (fun h => absurd (of_decide_eq_false h) (by omega))
    refine ok_gd (by simp) (ok_gd (by simp [hlt]) (ok_at (named_s _) (ok_br (fun h1 => ?_) fun h1 => ?_)))
    · refine ok_at (fault_s _ _) (ok_some ⟨by simp, fun q => ?_⟩)
      have := (hst.1 q).1.1
      rw [this] at h1; cases h1
    · have h1 : namB K[k] = true := by simpa using h1
      refine ok_br (fun h2 => ?_) fun h2 => ?_
      · have hk0 : 0 < k := by
          have : decide ((k : Int) > 0) = true := by simpa using h2
          have := of_decide_eq_true this
          omega
        have e3 : IntKind.i64.wrap ((k : Int) - 1) = ((k - 1 : Nat) : Int) := by rw [wr_in (by omega)]; omega
        have hl2 : k - 1 < K.length := by omega
        have hg1 : ∀ d, K.getD (k - 1) d = K[k - 1] := fun d => getD_in hl2
        simp only [e3, Int.toNat_natCast, hg1, le_lt]
        rw [hg1] at hst
        refine ok_gd (by simp) (ok_gd (by simp [hl2]) (ok_br (fun h3 => ?_) fun h3 => ok_gd rfl (ok_gd rfl ?_)))
        · refine ok_at (fault_s _ _) (ok_some ⟨by simp, fun q => ?_⟩)
          have := (hst.1 q).1.2 hk0
          rw [h3] at this; cases this
        · obtain ⟨r, hr, hq⟩ := ih
          refine ⟨r, hr, ?_⟩
          cases r with
          | inl r => exact ⟨hq.1, fun q => hq.2 (hst.1 q).2⟩
          | inr r => exact hst.2 ⟨⟨h1, fun _ => h3⟩, hq⟩
      · have hk0 : k = 0 := by
          have : decide ((k : Int) > 0) = false := by simpa using h2
          have := of_decide_eq_false this
          omega
        refine ok_gd rfl (ok_gd rfl ?_)
        obtain ⟨r, hr, hq⟩ := ih
        refine ⟨r, hr, ?_⟩
        cases r with
        | inl r => exact ⟨hq.1, fun q => hq.2 (hst.1 q).2⟩
        | inr r => exact hst.2 ⟨⟨h1, fun h => by omega⟩, hq⟩
structure KOk (K : List ByteArray) : Prop where
  len : K.length ≤ 1000
  nam : ∀ s ∈ K, namB s = true
  srt : srtK K
theorem adj_srtK {K : List ByteArray} : (∀ i (h : i < K.length), 0 < i → notLt (K.getD (i - 1) ⟨#[]⟩) K[i] = false) ↔ srtK K := by
  constructor
  · intro h
    have adj : ∀ i (h1 : i + 1 < K.length), ltK (L K[i]) (L K[i + 1]) = true := fun i h1 => by
      have := h (i + 1) h1 (by omega)
      have e : K.getD (i + 1 - 1) ⟨#[]⟩ = K[i] := getD_in (by omega)
      rw [e] at this
      simpa [notLt] using this
    refine List.pairwise_iff_getElem.2 fun i j hi hj hij => ?_
    induction j with
    | zero => omega
    | succ j ih =>
      rcases Nat.eq_or_lt_of_le (Nat.le_of_lt_succ hij) with e | e
      · subst e; exact adj i hj
      · exact ltK_trans (ih (by omega) e) (adj j hj)
  · intro h i hi h0
    have e : K.getD (i - 1) ⟨#[]⟩ = K[i - 1] := getD_in (by omega)
    rw [e]
    have := List.pairwise_iff_getElem.1 h (i - 1) i (by omega) hi (by omega)
    simp [notLt, this]
theorem KG_ok {K : List ByteArray} (hK : K.length ≤ 1000) : KG K 0 ↔ KOk K := by
  constructor
  · intro h
    refine ⟨hK, fun s hs => ?_, adj_srtK.1 fun i hi h0 => (h i hi (Nat.zero_le _)).2 h0⟩
    obtain ⟨i, hi, rfl⟩ := List.getElem_of_mem hs
    exact (h i hi (Nat.zero_le _)).1
  · intro h i hi _
    exact ⟨h.nam _ (List.getElem_mem hi), adj_srtK.2 h.srt i hi⟩
theorem common_s (G J : Int) (T : List S74) (K : List ByteArray) : Ok (classify_common_s G J T K) fun f => f.1 = 0 ↔ VOk G J T ∧ KOk K := by
  have hv := valF_ok G J T
  refine .via classify_common_eq ?_
  unfold classify_common_t
  simp only [EC.decL_encL, EC.isL_encL, EC.encL_length]
  refine ok_gd rfl (ok_at (validate_s G J T) (ok_at (failed_s _ _) (ok_br (fun h => ok_some ?_) fun h => ?_)))
  · constructor
    · intro e; exact absurd e (by simpa using h)
    · intro e; simp [hv.2 e.1] at h
  · have h0 : (valF G J T).1 = 0 := by simpa using h
    refine ok_br (fun h1 => ok_at (fault_s _ _) (ok_some ?_)) fun h1 => ok_gd rfl (ok_gd rfl ?_)
    · have := of_decide_eq_true h1
      constructor
      · intro e; simp at e
      · intro e; have := e.2.len; omega
    · have hK : K.length ≤ 1000 := by have := of_decide_eq_false h1; omega
      have hl := com_loop K hK K.length 0 (by omega)
      rw [Int.natCast_zero] at hl
      refine ok_bind hl fun r hr => ?_
      cases r with
      | inl r =>
        refine ok_some ?_
        constructor
        · intro e; exact absurd e hr.1
        · intro e; exact absurd ((KG_ok hK).2 e.2) hr.2
      | inr r =>
        refine ok_at none_s (ok_some ?_)
        constructor
        · intro _; exact ⟨hv.1 h0, (KG_ok hK).1 hr⟩
        · intro _; rfl
end Go.Proofs.YtomnbknaanlmaaaGreatDoor
namespace Go.Proofs.YtomnbknaanlmaaaGreatDoor
open Go.RowKit
section
variable {P : Program} {live : FuncId → Nat → List Nat} {X : XT}
/-- one body, run by the machine -/
noncomputable def inlC (β : Type) {f nt : Nat} (es : List (Ent P live X)) (hs : List (HEnt P live X)) (ls : List (LEnt P live X f nt)) (c : Code) (s : LS) (k : Nat × LS → Option β) : Option β :=
  codeL P (ioB live) (live f) (look P live X β es) (lookH P live X β hs) nt (lookL P live X β ls false) (lookL P live X β ls true) c s k
theorem inlC_ok {β : Type} {f nt : Nat} {es : List (Ent P live X)} {hs : List (HEnt P live X)} {ls : List (LEnt P live X f nt)} {c : Code} (hd : allDraw P (ioB live) (live f) c = true) (hl : allL P live X ls false (loopsOf (live f) c)) (hg : allL P live X ls true (segsOf (live f) c))
    {s : LS} {k : Nat × LS → Option β} {r : β} (h : inlC β es hs ls c s k = some r) : ∃ n s', stepC P (live f) (CallT P live X) nt (Exec P live X f nt) c s.st = some (n, s'.st) ∧ k (n, s') = some r :=
  codeL_ok P (call := CallT P live X) (fun f a k r => look_ok P live X es f a k r) (lookH_ok P live X hs) c hd (allL_ok P live X hl) (allL_ok P live X hg) _ _ _ h
/-- a function on the caller's heap -/
noncomputable def inlH (f : FuncId) (key : List Nat) (fn : Func) (c : Code) (es : List (Ent P live X)) (hs : List (HEnt P live X)) (ls : List (LEnt P live X f fn.ntmps)) (hb : bodyOf P f = some fn) (hc : fn.body = some c) (hdf : dfB live f = false)
    (hd : allDraw P (ioB live) (live f) c = true) (hl : allL P live X ls false (loopsOf (live f) c)) (hg : allL P live X ls true (segsOf (live f) c)) : HEnt P live X where
  f := f
  key := key
  run β s k := inlC β es hs ls c s (fun y => if y.1 ≤ 1 then (resV P fn y.2.st).bind fun vs => (finH (fzL live f) y.2.st vs).bind fun z => canK (List.range z.1.length) { z.2 with t := fun i => z.1.getD i .any } fun ls => k (oneOrTup ((List.range z.1.length).map ls.st.t), ls.st) else none)
  ok {β s k r} h := by
    obtain ⟨n, s', h1, h2⟩ := inlC_ok hd hl hg h
    have h3 := Exec_step P live X h1
    unfold heapFrom
    rw [hb]
    simp only [Option.bind_some, hc, hdf, cond_false, h3]
    simp only at h2
    split at h2
    case isFalse => cases h2
    rename_i hn
    simp only [hn, if_true]
    cases hv : resV P fn s'.st with
    | none => rw [hv] at h2; cases h2
    | some vs =>
      rw [hv] at h2
      simp only [Option.bind_some] at h2 ⊢
      cases hz : finH (fzL live f) s'.st vs with
      | none => rw [hz] at h2; cases h2
      | some z =>
      rw [hz] at h2
      simp only [Option.bind_some] at h2
      obtain ⟨l1, e1, h2⟩ := canK_ok h2
      have e1' : endN z.1 z.2 = l1.st := e1
      exact ⟨_, by simp only [Option.map_some, e1'], h2⟩
end
end Go.Proofs.YtomnbknaanlmaaaGreatDoor
namespace Go.Proofs.YtomnbknaanlmaaaGreatDoor
open Go.RowKit
set_option maxRecDepth 100000
noncomputable section
def sd1_e : HEnt Tryz.prog lv X0 := inlH 20 [0, 3, 0, 0, 1, 3, 0, 1, 2, 1, 2, 1, 3, 1, 1, 1, 1, 1, 4, 0] Tryz.f20 (cdF Tryz.f20) tab_posthouseref5_SameWords [] [] (by kernel_rfl) rfl (by kernel_rfl) (by kernel_rfl) trivial trivial
def htab_sd1 : List (HEnt Tryz.prog lv X0) := sd1_e :: []
def sd2_e : HEnt Tryz.prog lv X0 := inlH 20 [0, 4, 0, 3, 1, 1, 4, 0, 3, 2, 2, 1, 2, 2, 0] Tryz.f20 (cdF Tryz.f20) tab_posthouseref5_SameWords htab_sd1 [] (by kernel_rfl) rfl (by kernel_rfl) (by kernel_rfl) trivial trivial
def htab_sd2 : List (HEnt Tryz.prog lv X0) := sd2_e :: htab_sd1
def sd3_e : HEnt Tryz.prog lv X0 := inlH 20 [0, 4, 0, 3, 1, 1, 4, 0, 3, 2, 2, 1, 2, 2] Tryz.f20 (cdF Tryz.f20) tab_posthouseref5_SameWords htab_sd2 [] (by kernel_rfl) rfl (by kernel_rfl) (by kernel_rfl) trivial trivial
def htab_sd3 : List (HEnt Tryz.prog lv X0) := sd3_e :: htab_sd2
def classify_Learn_ca : Cod (List V) ((Int × Int × (List S74)) × (List ByteArray) × Bool) := (lCons (vAgg (lCons (vC (cInt .i64)) (lCons (vC (cInt .i64)) (lOne (vC (cSl ec_74)))))) (lCons (vC (cSl ec_9)) (lOne (vC cBool))))
def classify_Learn_l10_s : SC ((Bool × Unit × Unit × Unit × (List ByteArray) × Int × Int) × ((Int × Int × Nat) × (Int × Int × Nat) × (Int × Int) × (List S74) × (List S74))) := sLS [2, 3, 6, 7, 40, 41, 42] (lCons (vC cBool) (lCons (vPtr 0 0) (lCons (vPtr 1 0) (lCons (vPtr 2 0) (lCons (vC (cSl ec_9)) (lCons (vC (cInt .i64)) (lOne (vC (cInt .i64))))))))) (lCons (oSome (bBox (lCons (vC (cInt .i64)) (lCons (vC (cInt .i64)) (lOne (vRow 3)))))) (lCons (oSome (bBox (lCons (vC (cInt .i64)) (lCons (vC (cInt .i64)) (lOne (vRow 4)))))) (lCons (oSome (bBox (lCons (vC (cInt .i64)) (lOne (vC (cInt .i64)))))) (lCons (oSome (bRow ec_74)) (lOne (oSome (bRow ec_74))))))) [false, false, false, false, false] [] (by decide) (fun _ => rfl)
def classify_Learn_l10_o2 : SC ((Bool × Unit × Unit × Unit × (List ByteArray) × Int × Int × Bool) × ((Int × Int × Nat) × (Int × Int × Nat) × (Int × Int) × (List S74) × (List S74))) := sLS [2, 3, 6, 7, 40, 41, 42, 43] (lCons (vC cBool) (lCons (vPtr 0 0) (lCons (vPtr 1 0) (lCons (vPtr 2 0) (lCons (vC (cSl ec_9)) (lCons (vC (cInt .i64)) (lCons (vC (cInt .i64)) (lOne (vC cBool))))))))) (lCons (oSome (bBox (lCons (vC (cInt .i64)) (lCons (vC (cInt .i64)) (lOne (vRow 3)))))) (lCons (oSome (bBox (lCons (vC (cInt .i64)) (lCons (vC (cInt .i64)) (lOne (vRow 4)))))) (lCons (oSome (bBox (lCons (vC (cInt .i64)) (lOne (vC (cInt .i64)))))) (lCons (oSome (bRow ec_74)) (lOne (oSome (bRow ec_74))))))) [false, false, false, false, false] [] (by decide) (fun _ => rfl)
def classify_Learn_l10_o : OC ((Bool × Unit × Unit × Unit × (List ByteArray) × Int × Int × Bool) × ((Int × Int × Nat) × (Int × Int × Nat) × (Int × Int) × (List S74) × (List S74))) := oAt 2 classify_Learn_l10_o2
def classify_Learn_l10 (junk : Bool) (t40 : (List ByteArray)) (t41 : Int) (t42 : Int) (b0 : Int) (b0_1 : Int) (b0_2 : Nat) (b1 : Int) (b1_1 : Int) (b1_2 : Nat) (b2 : Int) (b2_1 : Int) (b3 : (List S74)) (b4 : (List S74)) : Option ((Bool × Unit × Unit × Unit × (List ByteArray) × Int × Int × Bool) × ((Int × Int × Nat) × (Int × Int × Nat) × (Int × Int) × (List S74) × (List S74))) := lS Tryz.prog lv X0 6 88 (getLoop (cdF Tryz.f6) 10) classify_Learn_l10_s classify_Learn_l10_o ((junk, (), (), (), t40, t41, t42), ((b0, b0_1, b0_2), (b1, b1_1, b1_2), (b2, b2_1), b3, b4))
def classify_Learn_l10_t (junk : Bool) (t40 : (List ByteArray)) (t41 : Int) (t42 : Int) (b0 : Int) (b0_1 : Int) (b0_2 : Nat) (b1 : Int) (b1_1 : Int) (b1_2 : Nat) (b2 : Int) (b2_1 : Int) (b3 : (List S74)) (b4 : (List S74)) : Option ((Bool × Unit × Unit × Unit × (List ByteArray) × Int × Int × Bool) × ((Int × Int × Nat) × (Int × Int × Nat) × (Int × Int) × (List S74) × (List S74))) :=
 (brE (decide (t42 < t41))
 (gdE (decide ((0 : Int) ≤ t42)) <|
 (gdE ((decide ((Int.toNat t42) < (List.length (EC.encL ec_9 t40)))) && (isE [K1.str] (0 : Nat) (List.getD (EC.encL ec_9 t40) (Int.toNat t42) []))) <|
 (gdE (EC.isL ec_74 (EC.encL ec_74 b3)) <|
 (Option.bind (classify_find_s (EC.decL ec_74 (EC.encL ec_74 b3)) (strOf (List.getD (List.getD (EC.encL ec_9 t40) (Int.toNat t42) []) (0 : Nat) C.ne))) fun r0 =>
 (brE (!(r0).2)
 (gdE (((((List.all (EC.encL ec_74 b3) tokB) && (List.all [[(C.str (strOf (List.getD (List.getD (EC.encL ec_9 t40) (Int.toNat t42) []) (0 : Nat) C.ne))), (C.int Go.IntKind.i64 (0 : Int)), (C.int Go.IntKind.i64 (0 : Int))]] tokB)) && (decide ((0 : Int) ≤ (r0).1))) && (decide ((r0).1 ≤ ((b0_2 : Nat) : Int)))) && (decide (b0_2 ≤ (1000000 : Nat)))) <|
 (gdE ((decide ((0 : Int) ≤ (r0).1)) && (decide ((r0).1 < (((b0_2 + (1 : Nat)) : Nat) : Int)))) <|
 (gdE ((decide ((0 : Int) ≤ (r0).1)) && (decide ((r0).1 < (((b0_2 + (1 : Nat)) : Nat) : Int)))) <|
 (brE junk
 (gdE ((decide ((Int.toNat (r0).1) < (List.length ((List.take (Int.toNat (r0).1) (EC.encL ec_74 b3)) ++ ([[(C.str (strOf (List.getD (List.getD (EC.encL ec_9 t40) (Int.toNat t42) []) (0 : Nat) C.ne))), (C.int Go.IntKind.i64 (0 : Int)), (C.int Go.IntKind.i64 (0 : Int))]] ++ (List.drop (Int.toNat (r0).1) (EC.encL ec_74 b3))))))) && ((List.length (List.getD ((List.take (Int.toNat (r0).1) (EC.encL ec_74 b3)) ++ ([[(C.str (strOf (List.getD (List.getD (EC.encL ec_9 t40) (Int.toNat t42) []) (0 : Nat) C.ne))), (C.int Go.IntKind.i64 (0 : Int)), (C.int Go.IntKind.i64 (0 : Int))]] ++ (List.drop (Int.toNat (r0).1) (EC.encL ec_74 b3)))) (Int.toNat (r0).1) [])) == (3 : Nat))) <|
 (gdE (isP [(K1.int Go.IntKind.i64)] (2 : Nat) (List.getD ((List.take (Int.toNat (r0).1) (EC.encL ec_74 b3)) ++ ([[(C.str (strOf (List.getD (List.getD (EC.encL ec_9 t40) (Int.toNat t42) []) (0 : Nat) C.ne))), (C.int Go.IntKind.i64 (0 : Int)), (C.int Go.IntKind.i64 (0 : Int))]] ++ (List.drop (Int.toNat (r0).1) (EC.encL ec_74 b3)))) (Int.toNat (r0).1) [])) <|
 (gdE ((decide ((Int.toNat (r0).1) < (List.length ((List.take (Int.toNat (r0).1) (EC.encL ec_74 b3)) ++ ([[(C.str (strOf (List.getD (List.getD (EC.encL ec_9 t40) (Int.toNat t42) []) (0 : Nat) C.ne))), (C.int Go.IntKind.i64 (0 : Int)), (C.int Go.IntKind.i64 (0 : Int))]] ++ (List.drop (Int.toNat (r0).1) (EC.encL ec_74 b3))))))) && ((List.length (List.getD ((List.take (Int.toNat (r0).1) (EC.encL ec_74 b3)) ++ ([[(C.str (strOf (List.getD (List.getD (EC.encL ec_9 t40) (Int.toNat t42) []) (0 : Nat) C.ne))), (C.int Go.IntKind.i64 (0 : Int)), (C.int Go.IntKind.i64 (0 : Int))]] ++ (List.drop (Int.toNat (r0).1) (EC.encL ec_74 b3)))) (Int.toNat (r0).1) [])) == (3 : Nat))) <|
 (gdE (EC.isL ec_9 (EC.encL ec_9 t40)) <|
 (gdE (EC.isL ec_74 (List.set ((List.take (Int.toNat (r0).1) (EC.encL ec_74 b3)) ++ ([[(C.str (strOf (List.getD (List.getD (EC.encL ec_9 t40) (Int.toNat t42) []) (0 : Nat) C.ne))), (C.int Go.IntKind.i64 (0 : Int)), (C.int Go.IntKind.i64 (0 : Int))]] ++ (List.drop (Int.toNat (r0).1) (EC.encL ec_74 b3)))) (Int.toNat (r0).1) (splice (List.getD ((List.take (Int.toNat (r0).1) (EC.encL ec_74 b3)) ++ ([[(C.str (strOf (List.getD (List.getD (EC.encL ec_9 t40) (Int.toNat t42) []) (0 : Nat) C.ne))), (C.int Go.IntKind.i64 (0 : Int)), (C.int Go.IntKind.i64 (0 : Int))]] ++ (List.drop (Int.toNat (r0).1) (EC.encL ec_74 b3)))) (Int.toNat (r0).1) []) (2 : Nat) [(C.int Go.IntKind.i64 (IntKind.wrap .i64 ((intOf (List.getD (List.getD ((List.take (Int.toNat (r0).1) (EC.encL ec_74 b3)) ++ ([[(C.str (strOf (List.getD (List.getD (EC.encL ec_9 t40) (Int.toNat t42) []) (0 : Nat) C.ne))), (C.int Go.IntKind.i64 (0 : Int)), (C.int Go.IntKind.i64 (0 : Int))]] ++ (List.drop (Int.toNat (r0).1) (EC.encL ec_74 b3)))) (Int.toNat (r0).1) []) (2 : Nat) C.ne)) + (1 : Int))))]))) <|
 (gdE (EC.isL ec_74 (EC.encL ec_74 b4)) <|
 (classify_Learn_l10 junk (EC.decL ec_9 (EC.encL ec_9 t40)) t41 (IntKind.wrap .i64 (t42 + (1 : Int))) b0 b0_1 (b0_2 + (1 : Nat)) b1 b1_1 b1_2 b2 b2_1 (EC.decL ec_74 (List.set ((List.take (Int.toNat (r0).1) (EC.encL ec_74 b3)) ++ ([[(C.str (strOf (List.getD (List.getD (EC.encL ec_9 t40) (Int.toNat t42) []) (0 : Nat) C.ne))), (C.int Go.IntKind.i64 (0 : Int)), (C.int Go.IntKind.i64 (0 : Int))]] ++ (List.drop (Int.toNat (r0).1) (EC.encL ec_74 b3)))) (Int.toNat (r0).1) (splice (List.getD ((List.take (Int.toNat (r0).1) (EC.encL ec_74 b3)) ++ ([[(C.str (strOf (List.getD (List.getD (EC.encL ec_9 t40) (Int.toNat t42) []) (0 : Nat) C.ne))), (C.int Go.IntKind.i64 (0 : Int)), (C.int Go.IntKind.i64 (0 : Int))]] ++ (List.drop (Int.toNat (r0).1) (EC.encL ec_74 b3)))) (Int.toNat (r0).1) []) (2 : Nat) [(C.int Go.IntKind.i64 (IntKind.wrap .i64 ((intOf (List.getD (List.getD ((List.take (Int.toNat (r0).1) (EC.encL ec_74 b3)) ++ ([[(C.str (strOf (List.getD (List.getD (EC.encL ec_9 t40) (Int.toNat t42) []) (0 : Nat) C.ne))), (C.int Go.IntKind.i64 (0 : Int)), (C.int Go.IntKind.i64 (0 : Int))]] ++ (List.drop (Int.toNat (r0).1) (EC.encL ec_74 b3)))) (Int.toNat (r0).1) []) (2 : Nat) C.ne)) + (1 : Int))))]))) (EC.decL ec_74 (EC.encL ec_74 b4)))))))))
 (gdE ((decide ((Int.toNat (r0).1) < (List.length ((List.take (Int.toNat (r0).1) (EC.encL ec_74 b3)) ++ ([[(C.str (strOf (List.getD (List.getD (EC.encL ec_9 t40) (Int.toNat t42) []) (0 : Nat) C.ne))), (C.int Go.IntKind.i64 (0 : Int)), (C.int Go.IntKind.i64 (0 : Int))]] ++ (List.drop (Int.toNat (r0).1) (EC.encL ec_74 b3))))))) && ((List.length (List.getD ((List.take (Int.toNat (r0).1) (EC.encL ec_74 b3)) ++ ([[(C.str (strOf (List.getD (List.getD (EC.encL ec_9 t40) (Int.toNat t42) []) (0 : Nat) C.ne))), (C.int Go.IntKind.i64 (0 : Int)), (C.int Go.IntKind.i64 (0 : Int))]] ++ (List.drop (Int.toNat (r0).1) (EC.encL ec_74 b3)))) (Int.toNat (r0).1) [])) == (3 : Nat))) <|
 (gdE (isP [(K1.int Go.IntKind.i64)] (1 : Nat) (List.getD ((List.take (Int.toNat (r0).1) (EC.encL ec_74 b3)) ++ ([[(C.str (strOf (List.getD (List.getD (EC.encL ec_9 t40) (Int.toNat t42) []) (0 : Nat) C.ne))), (C.int Go.IntKind.i64 (0 : Int)), (C.int Go.IntKind.i64 (0 : Int))]] ++ (List.drop (Int.toNat (r0).1) (EC.encL ec_74 b3)))) (Int.toNat (r0).1) [])) <|
 (gdE ((decide ((Int.toNat (r0).1) < (List.length ((List.take (Int.toNat (r0).1) (EC.encL ec_74 b3)) ++ ([[(C.str (strOf (List.getD (List.getD (EC.encL ec_9 t40) (Int.toNat t42) []) (0 : Nat) C.ne))), (C.int Go.IntKind.i64 (0 : Int)), (C.int Go.IntKind.i64 (0 : Int))]] ++ (List.drop (Int.toNat (r0).1) (EC.encL ec_74 b3))))))) && ((List.length (List.getD ((List.take (Int.toNat (r0).1) (EC.encL ec_74 b3)) ++ ([[(C.str (strOf (List.getD (List.getD (EC.encL ec_9 t40) (Int.toNat t42) []) (0 : Nat) C.ne))), (C.int Go.IntKind.i64 (0 : Int)), (C.int Go.IntKind.i64 (0 : Int))]] ++ (List.drop (Int.toNat (r0).1) (EC.encL ec_74 b3)))) (Int.toNat (r0).1) [])) == (3 : Nat))) <|
 (gdE (EC.isL ec_9 (EC.encL ec_9 t40)) <|
 (gdE (EC.isL ec_74 (List.set ((List.take (Int.toNat (r0).1) (EC.encL ec_74 b3)) ++ ([[(C.str (strOf (List.getD (List.getD (EC.encL ec_9 t40) (Int.toNat t42) []) (0 : Nat) C.ne))), (C.int Go.IntKind.i64 (0 : Int)), (C.int Go.IntKind.i64 (0 : Int))]] ++ (List.drop (Int.toNat (r0).1) (EC.encL ec_74 b3)))) (Int.toNat (r0).1) (splice (List.getD ((List.take (Int.toNat (r0).1) (EC.encL ec_74 b3)) ++ ([[(C.str (strOf (List.getD (List.getD (EC.encL ec_9 t40) (Int.toNat t42) []) (0 : Nat) C.ne))), (C.int Go.IntKind.i64 (0 : Int)), (C.int Go.IntKind.i64 (0 : Int))]] ++ (List.drop (Int.toNat (r0).1) (EC.encL ec_74 b3)))) (Int.toNat (r0).1) []) (1 : Nat) [(C.int Go.IntKind.i64 (IntKind.wrap .i64 ((intOf (List.getD (List.getD ((List.take (Int.toNat (r0).1) (EC.encL ec_74 b3)) ++ ([[(C.str (strOf (List.getD (List.getD (EC.encL ec_9 t40) (Int.toNat t42) []) (0 : Nat) C.ne))), (C.int Go.IntKind.i64 (0 : Int)), (C.int Go.IntKind.i64 (0 : Int))]] ++ (List.drop (Int.toNat (r0).1) (EC.encL ec_74 b3)))) (Int.toNat (r0).1) []) (1 : Nat) C.ne)) + (1 : Int))))]))) <|
 (gdE (EC.isL ec_74 (EC.encL ec_74 b4)) <|
 (classify_Learn_l10 junk (EC.decL ec_9 (EC.encL ec_9 t40)) t41 (IntKind.wrap .i64 (t42 + (1 : Int))) b0 b0_1 (b0_2 + (1 : Nat)) b1 b1_1 b1_2 b2 b2_1 (EC.decL ec_74 (List.set ((List.take (Int.toNat (r0).1) (EC.encL ec_74 b3)) ++ ([[(C.str (strOf (List.getD (List.getD (EC.encL ec_9 t40) (Int.toNat t42) []) (0 : Nat) C.ne))), (C.int Go.IntKind.i64 (0 : Int)), (C.int Go.IntKind.i64 (0 : Int))]] ++ (List.drop (Int.toNat (r0).1) (EC.encL ec_74 b3)))) (Int.toNat (r0).1) (splice (List.getD ((List.take (Int.toNat (r0).1) (EC.encL ec_74 b3)) ++ ([[(C.str (strOf (List.getD (List.getD (EC.encL ec_9 t40) (Int.toNat t42) []) (0 : Nat) C.ne))), (C.int Go.IntKind.i64 (0 : Int)), (C.int Go.IntKind.i64 (0 : Int))]] ++ (List.drop (Int.toNat (r0).1) (EC.encL ec_74 b3)))) (Int.toNat (r0).1) []) (1 : Nat) [(C.int Go.IntKind.i64 (IntKind.wrap .i64 ((intOf (List.getD (List.getD ((List.take (Int.toNat (r0).1) (EC.encL ec_74 b3)) ++ ([[(C.str (strOf (List.getD (List.getD (EC.encL ec_9 t40) (Int.toNat t42) []) (0 : Nat) C.ne))), (C.int Go.IntKind.i64 (0 : Int)), (C.int Go.IntKind.i64 (0 : Int))]] ++ (List.drop (Int.toNat (r0).1) (EC.encL ec_74 b3)))) (Int.toNat (r0).1) []) (1 : Nat) C.ne)) + (1 : Int))))]))) (EC.decL ec_74 (EC.encL ec_74 b4)))))))))))))
 (gdE ((decide ((0 : Int) ≤ (r0).1)) && (decide ((r0).1 < ((b0_2 : Nat) : Int)))) <|
 (gdE ((decide ((0 : Int) ≤ (r0).1)) && (decide ((r0).1 < ((b0_2 : Nat) : Int)))) <|
 (brE junk
 (gdE ((decide ((Int.toNat (r0).1) < (List.length (EC.encL ec_74 b3)))) && ((List.length (List.getD (EC.encL ec_74 b3) (Int.toNat (r0).1) [])) == (3 : Nat))) <|
 (gdE (isP [(K1.int Go.IntKind.i64)] (2 : Nat) (List.getD (EC.encL ec_74 b3) (Int.toNat (r0).1) [])) <|
 (gdE ((decide ((Int.toNat (r0).1) < (List.length (EC.encL ec_74 b3)))) && ((List.length (List.getD (EC.encL ec_74 b3) (Int.toNat (r0).1) [])) == (3 : Nat))) <|
 (gdE (EC.isL ec_9 (EC.encL ec_9 t40)) <|
 (gdE (EC.isL ec_74 (List.set (EC.encL ec_74 b3) (Int.toNat (r0).1) (splice (List.getD (EC.encL ec_74 b3) (Int.toNat (r0).1) []) (2 : Nat) [(C.int Go.IntKind.i64 (IntKind.wrap .i64 ((intOf (List.getD (List.getD (EC.encL ec_74 b3) (Int.toNat (r0).1) []) (2 : Nat) C.ne)) + (1 : Int))))]))) <|
 (gdE (EC.isL ec_74 (EC.encL ec_74 b4)) <|
 (classify_Learn_l10 junk (EC.decL ec_9 (EC.encL ec_9 t40)) t41 (IntKind.wrap .i64 (t42 + (1 : Int))) b0 b0_1 b0_2 b1 b1_1 b1_2 b2 b2_1 (EC.decL ec_74 (List.set (EC.encL ec_74 b3) (Int.toNat (r0).1) (splice (List.getD (EC.encL ec_74 b3) (Int.toNat (r0).1) []) (2 : Nat) [(C.int Go.IntKind.i64 (IntKind.wrap .i64 ((intOf (List.getD (List.getD (EC.encL ec_74 b3) (Int.toNat (r0).1) []) (2 : Nat) C.ne)) + (1 : Int))))]))) (EC.decL ec_74 (EC.encL ec_74 b4)))))))))
 (gdE ((decide ((Int.toNat (r0).1) < (List.length (EC.encL ec_74 b3)))) && ((List.length (List.getD (EC.encL ec_74 b3) (Int.toNat (r0).1) [])) == (3 : Nat))) <|
 (gdE (isP [(K1.int Go.IntKind.i64)] (1 : Nat) (List.getD (EC.encL ec_74 b3) (Int.toNat (r0).1) [])) <|
 (gdE ((decide ((Int.toNat (r0).1) < (List.length (EC.encL ec_74 b3)))) && ((List.length (List.getD (EC.encL ec_74 b3) (Int.toNat (r0).1) [])) == (3 : Nat))) <|
 (gdE (EC.isL ec_9 (EC.encL ec_9 t40)) <|
 (gdE (EC.isL ec_74 (List.set (EC.encL ec_74 b3) (Int.toNat (r0).1) (splice (List.getD (EC.encL ec_74 b3) (Int.toNat (r0).1) []) (1 : Nat) [(C.int Go.IntKind.i64 (IntKind.wrap .i64 ((intOf (List.getD (List.getD (EC.encL ec_74 b3) (Int.toNat (r0).1) []) (1 : Nat) C.ne)) + (1 : Int))))]))) <|
 (gdE (EC.isL ec_74 (EC.encL ec_74 b4)) <|
 (classify_Learn_l10 junk (EC.decL ec_9 (EC.encL ec_9 t40)) t41 (IntKind.wrap .i64 (t42 + (1 : Int))) b0 b0_1 b0_2 b1 b1_1 b1_2 b2 b2_1 (EC.decL ec_74 (List.set (EC.encL ec_74 b3) (Int.toNat (r0).1) (splice (List.getD (EC.encL ec_74 b3) (Int.toNat (r0).1) []) (1 : Nat) [(C.int Go.IntKind.i64 (IntKind.wrap .i64 ((intOf (List.getD (List.getD (EC.encL ec_74 b3) (Int.toNat (r0).1) []) (1 : Nat) C.ne)) + (1 : Int))))]))) (EC.decL ec_74 (EC.encL ec_74 b4)))))))))))))))))
 (gdE (EC.isL ec_9 (EC.encL ec_9 t40)) <|
 (gdE (EC.isL ec_74 (EC.encL ec_74 b3)) <|
 (gdE (EC.isL ec_74 (EC.encL ec_74 b4)) <|
 (some ((junk, ((), ((), ((), ((EC.decL ec_9 (EC.encL ec_9 t40)), (t41, (t42, false))))))), ((b0, (b0_1, b0_2)), ((b1, (b1_1, b1_2)), ((b2, b2_1), ((EC.decL ec_74 (EC.encL ec_74 b3)), (EC.decL ec_74 (EC.encL ec_74 b4))))))))))))
theorem classify_Learn_l10_eq {junk : Bool} {t40 : (List ByteArray)} {t41 : Int} {t42 : Int} {b0 : Int} {b0_1 : Int} {b0_2 : Nat} {b1 : Int} {b1_1 : Int} {b1_2 : Nat} {b2 : Int} {b2_1 : Int} {b3 : (List S74)} {b4 : (List S74)} {r : ((Bool × Unit × Unit × Unit × (List ByteArray) × Int × Int × Bool) × ((Int × Int × Nat) × (Int × Int × Nat) × (Int × Int) × (List S74) × (List S74)))} (h : classify_Learn_l10_t junk t40 t41 t42 b0 b0_1 b0_2 b1 b1_1 b1_2 b2 b2_1 b3 b4 = some r) : classify_Learn_l10 junk t40 t41 t42 b0 b0_1 b0_2 b1 b1_1 b1_2 b2 b2_1 b3 b4 = some r :=
  lS_tree (es := tab_posthouseref5_SameWords) (hs := htab_sd3) [] (by kernel_rfl) trivial trivial (by kernel_rfl) h
def classify_Learn_l10_e : LEnt Tryz.prog lv X0 6 88 := lentS Tryz.prog lv X0 10 (getLoop (cdF Tryz.f6) 10) classify_Learn_l10_s classify_Learn_l10_o (fun x => classify_Learn_l10 x.1.1 x.1.2.2.2.2.1 x.1.2.2.2.2.2.1 x.1.2.2.2.2.2.2 x.2.1.1 x.2.1.2.1 x.2.1.2.2 x.2.2.1.1 x.2.2.1.2.1 x.2.2.1.2.2 x.2.2.2.1.1 x.2.2.2.1.2 x.2.2.2.2.1 x.2.2.2.2.2) (fun _ _ h => lS_from h)
def classify_Learn_cr : Cod (V × List B) ((Int × Int × (List S74)) × (Int × Int)) := (cFstU (cPair (vTup (lCons (vAgg (lCons (vC (cInt .i64)) (lCons (vC (cInt .i64)) (lOne (vC (cSl ec_74)))))) (lOne (vAgg (lCons (vC (cInt .i64)) (lOne (vC (cInt .i64)))))))) lNil))
def classify_Learn_s (w_Good : Int) (w_Junk : Int) (w_Tokens : (List S74)) (tokens : (List ByteArray)) (junk : Bool) : Option ((Int × Int × (List S74)) × (Int × Int)) := fS Tryz.prog lv X0 6 classify_Learn_ca classify_Learn_cr ((w_Good, w_Junk, w_Tokens), tokens, junk)
def classify_Learn_t (w_Good : Int) (w_Junk : Int) (w_Tokens : (List S74)) (tokens : (List ByteArray)) (junk : Bool) : Option ((Int × Int × (List S74)) × (Int × Int)) :=
 (gdE (EC.isL ec_74 (EC.encL ec_74 w_Tokens)) <|
 (gdE (EC.isL ec_9 (EC.encL ec_9 tokens)) <|
 (Option.bind (classify_common_s w_Good w_Junk (EC.decL ec_74 (EC.encL ec_74 w_Tokens)) (EC.decL ec_9 (EC.encL ec_9 tokens))) fun r0 =>
 (Option.bind (basic_Failed_s (r0).1 (r0).2) fun r1 =>
 (brE r1
 (some (((0 : Int), ((0 : Int), (EC.decL ec_74 []))), ((r0).1, (r0).2)))
 (brE junk
 (brE (w_Junk == 1000000)
 (Option.bind (basic_Fault_s (8 : Int) (-(4 : Int))) fun r2 =>
 (some (((0 : Int), ((0 : Int), (EC.decL ec_74 []))), ((r2).1, (r2).2))))
 (gdE (EC.isL ec_74 (EC.encL ec_74 w_Tokens)) <|
 (Option.bind (api_Token__s (EC.decL ec_74 (EC.encL ec_74 w_Tokens))) fun r2 =>
 (gdE (EC.isL ec_9 (EC.encL ec_9 tokens)) <|
 (gdE (EC.isL ec_74 (EC.encL ec_74 (r2).2)) <|
 (Option.bind (classify_Learn_l10 junk (EC.decL ec_9 (EC.encL ec_9 tokens)) (((List.length (EC.encL ec_9 tokens)) : Nat) : Int) (0 : Int) w_Good (IntKind.wrap .i64 (w_Junk + (1 : Int))) (r2).1 (0 : Int) (0 : Int) (0 : Nat) (0 : Int) (0 : Int) (EC.decL ec_74 (EC.encL ec_74 (r2).2)) (EC.decL ec_74 [])) fun r3 =>
 (brE (decide (((((((r3).2).1).2).2 : Nat) : Int) > (2000 : Int)))
 (Option.bind (basic_Fault_s (2 : Int) (-(1 : Int))) fun r4 =>
 (some (((0 : Int), ((0 : Int), (EC.decL ec_74 []))), ((r4).1, (r4).2))))
 (Option.bind basic_None_s fun r4 =>
 (gdE (EC.isL ec_74 (EC.encL ec_74 (((((r3).2).2).2).2).1)) <|
 (some (((((r3).2).1).1, (((((r3).2).1).2).1, (EC.decL ec_74 (EC.encL ec_74 (((((r3).2).2).2).2).1)))), ((r4).1, (r4).2))))))))))))
 (brE (w_Good == 1000000)
 (Option.bind (basic_Fault_s (8 : Int) (-(4 : Int))) fun r2 =>
 (some (((0 : Int), ((0 : Int), (EC.decL ec_74 []))), ((r2).1, (r2).2))))
 (gdE (EC.isL ec_74 (EC.encL ec_74 w_Tokens)) <|
 (Option.bind (api_Token__s (EC.decL ec_74 (EC.encL ec_74 w_Tokens))) fun r2 =>
 (gdE (EC.isL ec_9 (EC.encL ec_9 tokens)) <|
 (gdE (EC.isL ec_74 (EC.encL ec_74 (r2).2)) <|
 (Option.bind (classify_Learn_l10 junk (EC.decL ec_9 (EC.encL ec_9 tokens)) (((List.length (EC.encL ec_9 tokens)) : Nat) : Int) (0 : Int) (IntKind.wrap .i64 (w_Good + (1 : Int))) w_Junk (r2).1 (0 : Int) (0 : Int) (0 : Nat) (0 : Int) (0 : Int) (EC.decL ec_74 (EC.encL ec_74 (r2).2)) (EC.decL ec_74 [])) fun r3 =>
 (brE (decide (((((((r3).2).1).2).2 : Nat) : Int) > (2000 : Int)))
 (Option.bind (basic_Fault_s (2 : Int) (-(1 : Int))) fun r4 =>
 (some (((0 : Int), ((0 : Int), (EC.decL ec_74 []))), ((r4).1, (r4).2))))
 (Option.bind basic_None_s fun r4 =>
 (gdE (EC.isL ec_74 (EC.encL ec_74 (((((r3).2).2).2).2).1)) <|
 (some (((((r3).2).1).1, (((((r3).2).1).2).1, (EC.decL ec_74 (EC.encL ec_74 (((((r3).2).2).2).2).1)))), ((r4).1, (r4).2))))))))))))))))))
theorem classify_Learn_eq {w_Good : Int} {w_Junk : Int} {w_Tokens : (List S74)} {tokens : (List ByteArray)} {junk : Bool} {r : ((Int × Int × (List S74)) × (Int × Int))} (h : classify_Learn_t w_Good w_Junk w_Tokens tokens junk = some r) : classify_Learn_s w_Good w_Junk w_Tokens tokens junk = some r :=
  fS_tree (es := tab_posthouseref5_SameWords) (hs := htab_sd3) [classify_Learn_l10_e] Tryz.func6 rfl (by kernel_rfl) rfl (by kernel_rfl) (by kernel_rfl) ⟨⟨_, rfl, rfl⟩, trivial⟩ trivial (by kernel_rfl) h
def classify_Learn_e : Ent Tryz.prog lv X0 := entS Tryz.prog lv X0 6 [] classify_Learn_ca classify_Learn_cr (fun x => classify_Learn_s x.1.1 x.1.2.1 x.1.2.2 x.2.1 x.2.2) (fun _ _ h => fS_call h)
def tab_classify_Learn : List (Ent Tryz.prog lv X0) := classify_Learn_e :: tab_posthouseref5_SameWords
def classify_Forget_ca : Cod (List V) ((Int × Int × (List S74)) × (List ByteArray) × Bool) := (lCons (vAgg (lCons (vC (cInt .i64)) (lCons (vC (cInt .i64)) (lOne (vC (cSl ec_74)))))) (lCons (vC (cSl ec_9)) (lOne (vC cBool))))
def classify_Forget_l10_s : SC ((Bool × Unit × Unit × Unit × (List ByteArray) × Int × Int) × ((Int × Int × Nat) × (Int × Int × Nat) × (Int × Int) × (List S74) × (List S74))) := sLS [2, 3, 6, 7, 40, 41, 42] (lCons (vC cBool) (lCons (vPtr 0 0) (lCons (vPtr 1 0) (lCons (vPtr 2 0) (lCons (vC (cSl ec_9)) (lCons (vC (cInt .i64)) (lOne (vC (cInt .i64))))))))) (lCons (oSome (bBox (lCons (vC (cInt .i64)) (lCons (vC (cInt .i64)) (lOne (vRow 3)))))) (lCons (oSome (bBox (lCons (vC (cInt .i64)) (lCons (vC (cInt .i64)) (lOne (vRow 4)))))) (lCons (oSome (bBox (lCons (vC (cInt .i64)) (lOne (vC (cInt .i64)))))) (lCons (oSome (bRow ec_74)) (lOne (oSome (bRow ec_74))))))) [false, false, false, false, false] [] (by decide) (fun _ => rfl)
def classify_Forget_l10_o2 : SC ((Bool × Unit × Unit × Unit × (List ByteArray) × Int × Int × Bool) × ((Int × Int × Nat) × (Int × Int × Nat) × (Int × Int) × (List S74) × (List S74))) := sLS [2, 3, 6, 7, 40, 41, 42, 43] (lCons (vC cBool) (lCons (vPtr 0 0) (lCons (vPtr 1 0) (lCons (vPtr 2 0) (lCons (vC (cSl ec_9)) (lCons (vC (cInt .i64)) (lCons (vC (cInt .i64)) (lOne (vC cBool))))))))) (lCons (oSome (bBox (lCons (vC (cInt .i64)) (lCons (vC (cInt .i64)) (lOne (vRow 3)))))) (lCons (oSome (bBox (lCons (vC (cInt .i64)) (lCons (vC (cInt .i64)) (lOne (vRow 4)))))) (lCons (oSome (bBox (lCons (vC (cInt .i64)) (lOne (vC (cInt .i64)))))) (lCons (oSome (bRow ec_74)) (lOne (oSome (bRow ec_74))))))) [false, false, false, false, false] [] (by decide) (fun _ => rfl)
def classify_Forget_l10_o1 : SC ((Unit × Unit) × ((Int × Int × Nat) × (Int × Int) × (List S74))) := sLS [6, 7] (lCons (vPtr 0 0) (lOne (vPtr 1 0))) (lCons (oSome (bBox (lCons (vC (cInt .i64)) (lCons (vC (cInt .i64)) (lOne (vRow 2)))))) (lCons (oSome (bBox (lCons (vC (cInt .i64)) (lOne (vC (cInt .i64)))))) (lOne (oSome (bRow ec_74))))) [false, false, false] [] (by decide) (fun _ => rfl)
def classify_Forget_l10_o : OC (((Unit × Unit) × ((Int × Int × Nat) × (Int × Int) × (List S74))) ⊕ ((Bool × Unit × Unit × Unit × (List ByteArray) × Int × Int × Bool) × ((Int × Int × Nat) × (Int × Int × Nat) × (Int × Int) × (List S74) × (List S74)))) := oOr 1 classify_Forget_l10_o1 (oAt 2 classify_Forget_l10_o2) (fun x => (by decide : (2 : Nat) ≠ 1))
def classify_Forget_l10 (junk : Bool) (t40 : (List ByteArray)) (t41 : Int) (t42 : Int) (b0 : Int) (b0_1 : Int) (b0_2 : Nat) (b1 : Int) (b1_1 : Int) (b1_2 : Nat) (b2 : Int) (b2_1 : Int) (b3 : (List S74)) (b4 : (List S74)) : Option (((Unit × Unit) × ((Int × Int × Nat) × (Int × Int) × (List S74))) ⊕ ((Bool × Unit × Unit × Unit × (List ByteArray) × Int × Int × Bool) × ((Int × Int × Nat) × (Int × Int × Nat) × (Int × Int) × (List S74) × (List S74)))) := lS Tryz.prog lv X0 7 105 (getLoop (cdF Tryz.f7) 10) classify_Forget_l10_s classify_Forget_l10_o ((junk, (), (), (), t40, t41, t42), ((b0, b0_1, b0_2), (b1, b1_1, b1_2), (b2, b2_1), b3, b4))
def classify_Forget_l10_t (junk : Bool) (t40 : (List ByteArray)) (t41 : Int) (t42 : Int) (b0 : Int) (b0_1 : Int) (b0_2 : Nat) (b1 : Int) (b1_1 : Int) (b1_2 : Nat) (b2 : Int) (b2_1 : Int) (b3 : (List S74)) (b4 : (List S74)) : Option (((Unit × Unit) × ((Int × Int × Nat) × (Int × Int) × (List S74))) ⊕ ((Bool × Unit × Unit × Unit × (List ByteArray) × Int × Int × Bool) × ((Int × Int × Nat) × (Int × Int × Nat) × (Int × Int) × (List S74) × (List S74)))) :=
 (brE (decide (t42 < t41))
 (gdE (decide ((0 : Int) ≤ t42)) <|
 (gdE ((decide ((Int.toNat t42) < (List.length (EC.encL ec_9 t40)))) && (isE [K1.str] (0 : Nat) (List.getD (EC.encL ec_9 t40) (Int.toNat t42) []))) <|
 (gdE (EC.isL ec_74 (EC.encL ec_74 b3)) <|
 (Option.bind (classify_find_s (EC.decL ec_74 (EC.encL ec_74 b3)) (strOf (List.getD (List.getD (EC.encL ec_9 t40) (Int.toNat t42) []) (0 : Nat) C.ne))) fun r0 =>
 (brE ((!(r0).2) == false)
 (gdE ((decide ((0 : Int) ≤ (r0).1)) && (decide ((r0).1 < ((b0_2 : Nat) : Int)))) <|
 (gdE ((decide ((0 : Int) ≤ (r0).1)) && (decide ((r0).1 < ((b0_2 : Nat) : Int)))) <|
 (brE junk
 (gdE ((decide ((Int.toNat (r0).1) < (List.length (EC.encL ec_74 b3)))) && ((List.length (List.getD (EC.encL ec_74 b3) (Int.toNat (r0).1) [])) == (3 : Nat))) <|
 (gdE (isP [(K1.int Go.IntKind.i64)] (2 : Nat) (List.getD (EC.encL ec_74 b3) (Int.toNat (r0).1) [])) <|
 (brE ((intOf (List.getD (List.getD (EC.encL ec_74 b3) (Int.toNat (r0).1) []) (2 : Nat) C.ne)) == 0)
 (Option.bind (basic_Fault_s (6 : Int) (IntKind.wrap .i64 ((-(10 : Int)) - t42))) fun r1 =>
 (some (.inl (((), ()), (((0 : Int), ((0 : Int), (0 : Nat))), (((r1).1, (r1).2), (EC.decL ec_74 [])))))))
 (gdE ((decide ((0 : Int) ≤ (r0).1)) && (decide ((r0).1 < ((b0_2 : Nat) : Int)))) <|
 (gdE ((decide ((0 : Int) ≤ (r0).1)) && (decide ((r0).1 < ((b0_2 : Nat) : Int)))) <|
 (brE junk
 (gdE ((decide ((Int.toNat (r0).1) < (List.length (EC.encL ec_74 b3)))) && ((List.length (List.getD (EC.encL ec_74 b3) (Int.toNat (r0).1) [])) == (3 : Nat))) <|
 (gdE (isP [(K1.int Go.IntKind.i64)] (2 : Nat) (List.getD (EC.encL ec_74 b3) (Int.toNat (r0).1) [])) <|
 (gdE ((decide ((Int.toNat (r0).1) < (List.length (EC.encL ec_74 b3)))) && ((List.length (List.getD (EC.encL ec_74 b3) (Int.toNat (r0).1) [])) == (3 : Nat))) <|
 (gdE (EC.isL ec_9 (EC.encL ec_9 t40)) <|
 (gdE (EC.isL ec_74 (List.set (EC.encL ec_74 b3) (Int.toNat (r0).1) (splice (List.getD (EC.encL ec_74 b3) (Int.toNat (r0).1) []) (2 : Nat) [(C.int Go.IntKind.i64 (IntKind.wrap .i64 ((intOf (List.getD (List.getD (EC.encL ec_74 b3) (Int.toNat (r0).1) []) (2 : Nat) C.ne)) - (1 : Int))))]))) <|
 (gdE (EC.isL ec_74 (EC.encL ec_74 b4)) <|
 (classify_Forget_l10 junk (EC.decL ec_9 (EC.encL ec_9 t40)) t41 (IntKind.wrap .i64 (t42 + (1 : Int))) b0 b0_1 b0_2 b1 b1_1 b1_2 b2 b2_1 (EC.decL ec_74 (List.set (EC.encL ec_74 b3) (Int.toNat (r0).1) (splice (List.getD (EC.encL ec_74 b3) (Int.toNat (r0).1) []) (2 : Nat) [(C.int Go.IntKind.i64 (IntKind.wrap .i64 ((intOf (List.getD (List.getD (EC.encL ec_74 b3) (Int.toNat (r0).1) []) (2 : Nat) C.ne)) - (1 : Int))))]))) (EC.decL ec_74 (EC.encL ec_74 b4)))))))))
 (gdE ((decide ((Int.toNat (r0).1) < (List.length (EC.encL ec_74 b3)))) && ((List.length (List.getD (EC.encL ec_74 b3) (Int.toNat (r0).1) [])) == (3 : Nat))) <|
 (gdE (isP [(K1.int Go.IntKind.i64)] (1 : Nat) (List.getD (EC.encL ec_74 b3) (Int.toNat (r0).1) [])) <|
 (gdE ((decide ((Int.toNat (r0).1) < (List.length (EC.encL ec_74 b3)))) && ((List.length (List.getD (EC.encL ec_74 b3) (Int.toNat (r0).1) [])) == (3 : Nat))) <|
 (gdE (EC.isL ec_9 (EC.encL ec_9 t40)) <|
 (gdE (EC.isL ec_74 (List.set (EC.encL ec_74 b3) (Int.toNat (r0).1) (splice (List.getD (EC.encL ec_74 b3) (Int.toNat (r0).1) []) (1 : Nat) [(C.int Go.IntKind.i64 (IntKind.wrap .i64 ((intOf (List.getD (List.getD (EC.encL ec_74 b3) (Int.toNat (r0).1) []) (1 : Nat) C.ne)) - (1 : Int))))]))) <|
 (gdE (EC.isL ec_74 (EC.encL ec_74 b4)) <|
 (classify_Forget_l10 junk (EC.decL ec_9 (EC.encL ec_9 t40)) t41 (IntKind.wrap .i64 (t42 + (1 : Int))) b0 b0_1 b0_2 b1 b1_1 b1_2 b2 b2_1 (EC.decL ec_74 (List.set (EC.encL ec_74 b3) (Int.toNat (r0).1) (splice (List.getD (EC.encL ec_74 b3) (Int.toNat (r0).1) []) (1 : Nat) [(C.int Go.IntKind.i64 (IntKind.wrap .i64 ((intOf (List.getD (List.getD (EC.encL ec_74 b3) (Int.toNat (r0).1) []) (1 : Nat) C.ne)) - (1 : Int))))]))) (EC.decL ec_74 (EC.encL ec_74 b4)))))))))))))))
 (gdE ((decide ((Int.toNat (r0).1) < (List.length (EC.encL ec_74 b3)))) && ((List.length (List.getD (EC.encL ec_74 b3) (Int.toNat (r0).1) [])) == (3 : Nat))) <|
 (gdE (isP [(K1.int Go.IntKind.i64)] (1 : Nat) (List.getD (EC.encL ec_74 b3) (Int.toNat (r0).1) [])) <|
 (brE ((intOf (List.getD (List.getD (EC.encL ec_74 b3) (Int.toNat (r0).1) []) (1 : Nat) C.ne)) == 0)
 (Option.bind (basic_Fault_s (6 : Int) (IntKind.wrap .i64 ((-(10 : Int)) - t42))) fun r1 =>
 (some (.inl (((), ()), (((0 : Int), ((0 : Int), (0 : Nat))), (((r1).1, (r1).2), (EC.decL ec_74 [])))))))
 (gdE ((decide ((0 : Int) ≤ (r0).1)) && (decide ((r0).1 < ((b0_2 : Nat) : Int)))) <|
 (gdE ((decide ((0 : Int) ≤ (r0).1)) && (decide ((r0).1 < ((b0_2 : Nat) : Int)))) <|
 (brE junk
 (gdE ((decide ((Int.toNat (r0).1) < (List.length (EC.encL ec_74 b3)))) && ((List.length (List.getD (EC.encL ec_74 b3) (Int.toNat (r0).1) [])) == (3 : Nat))) <|
 (gdE (isP [(K1.int Go.IntKind.i64)] (2 : Nat) (List.getD (EC.encL ec_74 b3) (Int.toNat (r0).1) [])) <|
 (gdE ((decide ((Int.toNat (r0).1) < (List.length (EC.encL ec_74 b3)))) && ((List.length (List.getD (EC.encL ec_74 b3) (Int.toNat (r0).1) [])) == (3 : Nat))) <|
 (gdE (EC.isL ec_9 (EC.encL ec_9 t40)) <|
 (gdE (EC.isL ec_74 (List.set (EC.encL ec_74 b3) (Int.toNat (r0).1) (splice (List.getD (EC.encL ec_74 b3) (Int.toNat (r0).1) []) (2 : Nat) [(C.int Go.IntKind.i64 (IntKind.wrap .i64 ((intOf (List.getD (List.getD (EC.encL ec_74 b3) (Int.toNat (r0).1) []) (2 : Nat) C.ne)) - (1 : Int))))]))) <|
 (gdE (EC.isL ec_74 (EC.encL ec_74 b4)) <|
 (classify_Forget_l10 junk (EC.decL ec_9 (EC.encL ec_9 t40)) t41 (IntKind.wrap .i64 (t42 + (1 : Int))) b0 b0_1 b0_2 b1 b1_1 b1_2 b2 b2_1 (EC.decL ec_74 (List.set (EC.encL ec_74 b3) (Int.toNat (r0).1) (splice (List.getD (EC.encL ec_74 b3) (Int.toNat (r0).1) []) (2 : Nat) [(C.int Go.IntKind.i64 (IntKind.wrap .i64 ((intOf (List.getD (List.getD (EC.encL ec_74 b3) (Int.toNat (r0).1) []) (2 : Nat) C.ne)) - (1 : Int))))]))) (EC.decL ec_74 (EC.encL ec_74 b4)))))))))
 (gdE ((decide ((Int.toNat (r0).1) < (List.length (EC.encL ec_74 b3)))) && ((List.length (List.getD (EC.encL ec_74 b3) (Int.toNat (r0).1) [])) == (3 : Nat))) <|
 (gdE (isP [(K1.int Go.IntKind.i64)] (1 : Nat) (List.getD (EC.encL ec_74 b3) (Int.toNat (r0).1) [])) <|
 (gdE ((decide ((Int.toNat (r0).1) < (List.length (EC.encL ec_74 b3)))) && ((List.length (List.getD (EC.encL ec_74 b3) (Int.toNat (r0).1) [])) == (3 : Nat))) <|
 (gdE (EC.isL ec_9 (EC.encL ec_9 t40)) <|
 (gdE (EC.isL ec_74 (List.set (EC.encL ec_74 b3) (Int.toNat (r0).1) (splice (List.getD (EC.encL ec_74 b3) (Int.toNat (r0).1) []) (1 : Nat) [(C.int Go.IntKind.i64 (IntKind.wrap .i64 ((intOf (List.getD (List.getD (EC.encL ec_74 b3) (Int.toNat (r0).1) []) (1 : Nat) C.ne)) - (1 : Int))))]))) <|
 (gdE (EC.isL ec_74 (EC.encL ec_74 b4)) <|
 (classify_Forget_l10 junk (EC.decL ec_9 (EC.encL ec_9 t40)) t41 (IntKind.wrap .i64 (t42 + (1 : Int))) b0 b0_1 b0_2 b1 b1_1 b1_2 b2 b2_1 (EC.decL ec_74 (List.set (EC.encL ec_74 b3) (Int.toNat (r0).1) (splice (List.getD (EC.encL ec_74 b3) (Int.toNat (r0).1) []) (1 : Nat) [(C.int Go.IntKind.i64 (IntKind.wrap .i64 ((intOf (List.getD (List.getD (EC.encL ec_74 b3) (Int.toNat (r0).1) []) (1 : Nat) C.ne)) - (1 : Int))))]))) (EC.decL ec_74 (EC.encL ec_74 b4))))))))))))))))))
 (Option.bind (basic_Fault_s (6 : Int) (IntKind.wrap .i64 ((-(10 : Int)) - t42))) fun r1 =>
 (some (.inl (((), ()), (((0 : Int), ((0 : Int), (0 : Nat))), (((r1).1, (r1).2), (EC.decL ec_74 []))))))))))))
 (gdE (EC.isL ec_9 (EC.encL ec_9 t40)) <|
 (gdE (EC.isL ec_74 (EC.encL ec_74 b3)) <|
 (gdE (EC.isL ec_74 (EC.encL ec_74 b4)) <|
 (some (.inr ((junk, ((), ((), ((), ((EC.decL ec_9 (EC.encL ec_9 t40)), (t41, (t42, false))))))), ((b0, (b0_1, b0_2)), ((b1, (b1_1, b1_2)), ((b2, b2_1), ((EC.decL ec_74 (EC.encL ec_74 b3)), (EC.decL ec_74 (EC.encL ec_74 b4)))))))))))))
theorem classify_Forget_l10_eq {junk : Bool} {t40 : (List ByteArray)} {t41 : Int} {t42 : Int} {b0 : Int} {b0_1 : Int} {b0_2 : Nat} {b1 : Int} {b1_1 : Int} {b1_2 : Nat} {b2 : Int} {b2_1 : Int} {b3 : (List S74)} {b4 : (List S74)} {r : (((Unit × Unit) × ((Int × Int × Nat) × (Int × Int) × (List S74))) ⊕ ((Bool × Unit × Unit × Unit × (List ByteArray) × Int × Int × Bool) × ((Int × Int × Nat) × (Int × Int × Nat) × (Int × Int) × (List S74) × (List S74))))} (h : classify_Forget_l10_t junk t40 t41 t42 b0 b0_1 b0_2 b1 b1_1 b1_2 b2 b2_1 b3 b4 = some r) : classify_Forget_l10 junk t40 t41 t42 b0 b0_1 b0_2 b1 b1_1 b1_2 b2 b2_1 b3 b4 = some r :=
  lS_tree (es := tab_classify_Learn) (hs := htab_sd3) [] (by kernel_rfl) trivial trivial (by kernel_rfl) h
def classify_Forget_l10_e : LEnt Tryz.prog lv X0 7 105 := lentS Tryz.prog lv X0 10 (getLoop (cdF Tryz.f7) 10) classify_Forget_l10_s classify_Forget_l10_o (fun x => classify_Forget_l10 x.1.1 x.1.2.2.2.2.1 x.1.2.2.2.2.2.1 x.1.2.2.2.2.2.2 x.2.1.1 x.2.1.2.1 x.2.1.2.2 x.2.2.1.1 x.2.2.1.2.1 x.2.2.1.2.2 x.2.2.2.1.1 x.2.2.2.1.2 x.2.2.2.2.1 x.2.2.2.2.2) (fun _ _ h => lS_from h)
def classify_Forget_cr : Cod (V × List B) ((Int × Int × (List S74)) × (Int × Int)) := (cFstU (cPair (vTup (lCons (vAgg (lCons (vC (cInt .i64)) (lCons (vC (cInt .i64)) (lOne (vC (cSl ec_74)))))) (lOne (vAgg (lCons (vC (cInt .i64)) (lOne (vC (cInt .i64)))))))) lNil))
def classify_Forget_s (w_Good : Int) (w_Junk : Int) (w_Tokens : (List S74)) (tokens : (List ByteArray)) (junk : Bool) : Option ((Int × Int × (List S74)) × (Int × Int)) := fS Tryz.prog lv X0 7 classify_Forget_ca classify_Forget_cr ((w_Good, w_Junk, w_Tokens), tokens, junk)
def classify_Forget_t (w_Good : Int) (w_Junk : Int) (w_Tokens : (List S74)) (tokens : (List ByteArray)) (junk : Bool) : Option ((Int × Int × (List S74)) × (Int × Int)) :=
 (gdE (EC.isL ec_74 (EC.encL ec_74 w_Tokens)) <|
 (gdE (EC.isL ec_9 (EC.encL ec_9 tokens)) <|
 (Option.bind (classify_common_s w_Good w_Junk (EC.decL ec_74 (EC.encL ec_74 w_Tokens)) (EC.decL ec_9 (EC.encL ec_9 tokens))) fun r0 =>
 (Option.bind (basic_Failed_s (r0).1 (r0).2) fun r1 =>
 (brE r1
 (some (((0 : Int), ((0 : Int), (EC.decL ec_74 []))), ((r0).1, (r0).2)))
 (brE junk
 (brE (w_Junk == 0)
 (Option.bind (basic_Fault_s (8 : Int) (-(4 : Int))) fun r2 =>
 (some (((0 : Int), ((0 : Int), (EC.decL ec_74 []))), ((r2).1, (r2).2))))
 (gdE (EC.isL ec_74 (EC.encL ec_74 w_Tokens)) <|
 (Option.bind (api_Token__s (EC.decL ec_74 (EC.encL ec_74 w_Tokens))) fun r2 =>
 (gdE (EC.isL ec_9 (EC.encL ec_9 tokens)) <|
 (gdE (EC.isL ec_74 (EC.encL ec_74 (r2).2)) <|
 (Option.bind (classify_Forget_l10 junk (EC.decL ec_9 (EC.encL ec_9 tokens)) (((List.length (EC.encL ec_9 tokens)) : Nat) : Int) (0 : Int) w_Good (IntKind.wrap .i64 (w_Junk - (1 : Int))) (r2).1 (0 : Int) (0 : Int) (0 : Nat) (0 : Int) (0 : Int) (EC.decL ec_74 (EC.encL ec_74 (r2).2)) (EC.decL ec_74 [])) fun r3 =>
 (Sum.elim (fun r4 => (gdE (EC.isL ec_74 (EC.encL ec_74 (((r4).2).2).2)) <|
 (some (((((r4).2).1).1, (((((r4).2).1).2).1, (EC.decL ec_74 (EC.encL ec_74 (((r4).2).2).2)))), (((((r4).2).2).1).1, ((((r4).2).2).1).2)))))
 (fun r4 => (gdE (List.all (EC.encL ec_74 (((((r4).2).2).2).2).1) tokB) <|
 (brE ((List.isEmpty (List.filter leftB (EC.encL ec_74 (((((r4).2).2).2).2).1))) && (!(List.isEmpty (EC.encL ec_74 (((((r4).2).2).2).2).1))))
 (Option.bind (classify_Validate_s (((r4).2).1).1 ((((r4).2).1).2).1 (EC.decL ec_74 [])) fun r5 =>
 (Option.bind (basic_Failed_s (r5).1 (r5).2) fun r6 =>
 (brE r6
 (Option.bind (basic_Fault_s (8 : Int) (-(4 : Int))) fun r7 =>
 (some (((0 : Int), ((0 : Int), (EC.decL ec_74 []))), ((r7).1, (r7).2))))
 (Option.bind basic_None_s fun r7 =>
 (some (((((r4).2).1).1, (((((r4).2).1).2).1, (EC.decL ec_74 []))), ((r7).1, (r7).2)))))))
 (gdE (EC.isL ec_74 (List.filter leftB (EC.encL ec_74 (((((r4).2).2).2).2).1))) <|
 (Option.bind (classify_Validate_s (((r4).2).1).1 ((((r4).2).1).2).1 (EC.decL ec_74 (List.filter leftB (EC.encL ec_74 (((((r4).2).2).2).2).1)))) fun r5 =>
 (Option.bind (basic_Failed_s (r5).1 (r5).2) fun r6 =>
 (brE r6
 (Option.bind (basic_Fault_s (8 : Int) (-(4 : Int))) fun r7 =>
 (some (((0 : Int), ((0 : Int), (EC.decL ec_74 []))), ((r7).1, (r7).2))))
 (Option.bind basic_None_s fun r7 =>
 (gdE (EC.isL ec_74 (List.filter leftB (EC.encL ec_74 (((((r4).2).2).2).2).1))) <|
 (some (((((r4).2).1).1, (((((r4).2).1).2).1, (EC.decL ec_74 (List.filter leftB (EC.encL ec_74 (((((r4).2).2).2).2).1))))), ((r7).1, (r7).2)))))))))))) r3)))))))
 (brE (w_Good == 0)
 (Option.bind (basic_Fault_s (8 : Int) (-(4 : Int))) fun r2 =>
 (some (((0 : Int), ((0 : Int), (EC.decL ec_74 []))), ((r2).1, (r2).2))))
 (gdE (EC.isL ec_74 (EC.encL ec_74 w_Tokens)) <|
 (Option.bind (api_Token__s (EC.decL ec_74 (EC.encL ec_74 w_Tokens))) fun r2 =>
 (gdE (EC.isL ec_9 (EC.encL ec_9 tokens)) <|
 (gdE (EC.isL ec_74 (EC.encL ec_74 (r2).2)) <|
 (Option.bind (classify_Forget_l10 junk (EC.decL ec_9 (EC.encL ec_9 tokens)) (((List.length (EC.encL ec_9 tokens)) : Nat) : Int) (0 : Int) (IntKind.wrap .i64 (w_Good - (1 : Int))) w_Junk (r2).1 (0 : Int) (0 : Int) (0 : Nat) (0 : Int) (0 : Int) (EC.decL ec_74 (EC.encL ec_74 (r2).2)) (EC.decL ec_74 [])) fun r3 =>
 (Sum.elim (fun r4 => (gdE (EC.isL ec_74 (EC.encL ec_74 (((r4).2).2).2)) <|
 (some (((((r4).2).1).1, (((((r4).2).1).2).1, (EC.decL ec_74 (EC.encL ec_74 (((r4).2).2).2)))), (((((r4).2).2).1).1, ((((r4).2).2).1).2)))))
 (fun r4 => (gdE (List.all (EC.encL ec_74 (((((r4).2).2).2).2).1) tokB) <|
 (brE ((List.isEmpty (List.filter leftB (EC.encL ec_74 (((((r4).2).2).2).2).1))) && (!(List.isEmpty (EC.encL ec_74 (((((r4).2).2).2).2).1))))
 (Option.bind (classify_Validate_s (((r4).2).1).1 ((((r4).2).1).2).1 (EC.decL ec_74 [])) fun r5 =>
 (Option.bind (basic_Failed_s (r5).1 (r5).2) fun r6 =>
 (brE r6
 (Option.bind (basic_Fault_s (8 : Int) (-(4 : Int))) fun r7 =>
 (some (((0 : Int), ((0 : Int), (EC.decL ec_74 []))), ((r7).1, (r7).2))))
 (Option.bind basic_None_s fun r7 =>
 (some (((((r4).2).1).1, (((((r4).2).1).2).1, (EC.decL ec_74 []))), ((r7).1, (r7).2)))))))
 (gdE (EC.isL ec_74 (List.filter leftB (EC.encL ec_74 (((((r4).2).2).2).2).1))) <|
 (Option.bind (classify_Validate_s (((r4).2).1).1 ((((r4).2).1).2).1 (EC.decL ec_74 (List.filter leftB (EC.encL ec_74 (((((r4).2).2).2).2).1)))) fun r5 =>
 (Option.bind (basic_Failed_s (r5).1 (r5).2) fun r6 =>
 (brE r6
 (Option.bind (basic_Fault_s (8 : Int) (-(4 : Int))) fun r7 =>
 (some (((0 : Int), ((0 : Int), (EC.decL ec_74 []))), ((r7).1, (r7).2))))
 (Option.bind basic_None_s fun r7 =>
 (gdE (EC.isL ec_74 (List.filter leftB (EC.encL ec_74 (((((r4).2).2).2).2).1))) <|
 (some (((((r4).2).1).1, (((((r4).2).1).2).1, (EC.decL ec_74 (List.filter leftB (EC.encL ec_74 (((((r4).2).2).2).2).1))))), ((r7).1, (r7).2)))))))))))) r3)))))))))))))
theorem classify_Forget_eq {w_Good : Int} {w_Junk : Int} {w_Tokens : (List S74)} {tokens : (List ByteArray)} {junk : Bool} {r : ((Int × Int × (List S74)) × (Int × Int))} (h : classify_Forget_t w_Good w_Junk w_Tokens tokens junk = some r) : classify_Forget_s w_Good w_Junk w_Tokens tokens junk = some r :=
  fS_tree (es := tab_classify_Learn) (hs := htab_sd3) [classify_Forget_l10_e] Tryz.func7 rfl (by kernel_rfl) rfl (by kernel_rfl) (by kernel_rfl) ⟨⟨_, rfl, rfl⟩, trivial⟩ trivial (by kernel_rfl) h
def classify_Forget_e : Ent Tryz.prog lv X0 := entS Tryz.prog lv X0 7 [] classify_Forget_ca classify_Forget_cr (fun x => classify_Forget_s x.1.1 x.1.2.1 x.1.2.2 x.2.1 x.2.2) (fun _ _ h => fS_call h)
def tab_classify_Forget : List (Ent Tryz.prog lv X0) := classify_Forget_e :: tab_classify_Learn
end
end Go.Proofs.YtomnbknaanlmaaaGreatDoor
namespace Go.Proofs.YtomnbknaanlmaaaGreatDoor
open Go.RowKit
theorem EC_set {τ : Type} (e : EC τ) (xs : List τ) (n : Nat) (x : τ) : (e.encL xs).set n (e.enc x) = e.encL (xs.set n x) := by simp [EC.encL, List.map_set]
theorem ins_enc (T : List S74) (i : Nat) (s : ByteArray) : List.take i (ec_74.encL T) ++ ([[.str s, .int .i64 0, .int .i64 0]] ++ List.drop i (ec_74.encL T)) = ec_74.encL (T.take i ++ ⟨s, 0, 0⟩ :: T.drop i) := by
  simp [EC.encL, List.map_take, List.map_drop, enc_74]
theorem tokB_all (T : List S74) : List.all (ec_74.encL T) tokB = true := by
  rw [List.all_eq_true]
  intro e he
  obtain ⟨x, _, rfl⟩ := List.mem_map.1 he
  rfl
section
variable {M : List S74} {i : Nat} (h : i < M.length)
include h
theorem g3_enc : (decide (i < M.length) && ((List.getD (ec_74.encL M) i []).length == 3)) = true := by
  rw [EC.getD_lt _ _ h]
  simp [h, enc_74]
theorem pG_enc : isP [.int .i64] 1 (List.getD (ec_74.encL M) i []) = true := by rw [EC.getD_lt _ _ h]; rfl
theorem pJ_enc : isP [.int .i64] 2 (List.getD (ec_74.encL M) i []) = true := by rw [EC.getD_lt _ _ h]; rfl
theorem setG_enc (n : Int) : List.set (ec_74.encL M) i (splice (List.getD (ec_74.encL M) i []) 1 [.int .i64 n]) = ec_74.encL (M.set i { M[i] with Good := n }) := by
  rw [EC.getD_lt _ _ h, ← EC_set]
  rfl
theorem setJ_enc (n : Int) : List.set (ec_74.encL M) i (splice (List.getD (ec_74.encL M) i []) 2 [.int .i64 n]) = ec_74.encL (M.set i { M[i] with Junk := n }) := by
  rw [EC.getD_lt _ _ h, ← EC_set]
  rfl
theorem atG_enc : intOf (List.getD (List.getD (ec_74.encL M) i []) 1 .ne) = M[i].Good := by rw [EC.getD_lt _ _ h]; rfl
theorem atJ_enc : intOf (List.getD (List.getD (ec_74.encL M) i []) 2 .ne) = M[i].Junk := by rw [EC.getD_lt _ _ h]; rfl
end
theorem lb_nil (t : ByteArray) : lb [] t = 0 := rfl
theorem lb_cons (e : S74) (l : List S74) (t : ByteArray) : lb (e :: l) t = if ltK (ky e) (L t) = true then lb l t + 1 else 0 := by
  unfold lb
  rw [List.takeWhile_cons]
  split <;> rfl
theorem atB_cons (e : S74) (l : List S74) (t : ByteArray) : atB (e :: l) t = if ltK (ky e) (L t) = true then atB l t else (ky e == L t) := by
  unfold atB
  rw [lb_cons]
  by_cases h : ltK (ky e) (L t) = true
  · rw [if_pos h, if_pos h, List.getElem?_cons_succ]
  · rw [if_neg h, if_neg h]
    rfl
theorem add_eq (x : Bool) (t : ByteArray) : ∀ (T : List S74), addT x T t = (if h : atB T t = true then T.set (lb T t) (bmp x (T[lb T t]'(atB_get h).1)) else T.take (lb T t) ++ bmp x ⟨t, 0, 0⟩ :: T.drop (lb T t))
  | [] => by
    have : atB [] t = false := rfl
    simp [addT, this, lb_nil]
  | e :: l => by
    have ih := add_eq x t l
    unfold addT
    by_cases h1 : ltK (ky e) (L t) = true
    · have hl : lb (e :: l) t = lb l t + 1 := by rw [lb_cons, if_pos h1]
      have ha : atB (e :: l) t = atB l t := by rw [atB_cons, if_pos h1]
      rw [if_pos h1, ih]
      by_cases h2 : atB l t = true
      · rw [dif_pos h2, dif_pos (by rw [ha]; exact h2)]
        simp only [hl, List.set_cons_succ, List.getElem_cons_succ]
      · rw [dif_neg h2, dif_neg (by rw [ha]; exact h2), hl, List.take_succ_cons, List.drop_succ_cons]
        rfl
    · have hl : lb (e :: l) t = 0 := by rw [lb_cons, if_neg h1]
      have ha : atB (e :: l) t = (ky e == L t) := by rw [atB_cons, if_neg h1]
      rw [if_neg h1]
      by_cases h2 : ky e = L t
      · rw [if_pos h2, dif_pos (by rw [ha]; simpa using h2)]
        simp only [hl, List.set_cons_zero, List.getElem_cons_zero]
      · rw [if_neg h2, dif_neg (by rw [ha]; simpa using h2), hl]
        rfl
def bdd (T : List S74) (B : Int) : Prop := ∀ e ∈ T, 0 ≤ e.Good ∧ e.Good ≤ B ∧ 0 ≤ e.Junk ∧ e.Junk ≤ B
theorem bmp_bd (x : Bool) {e : S74} {B : Int} (h : 0 ≤ e.Good ∧ e.Good ≤ B ∧ 0 ≤ e.Junk ∧ e.Junk ≤ B) : 0 ≤ (bmp x e).Good ∧ (bmp x e).Good ≤ B + 1 ∧ 0 ≤ (bmp x e).Junk ∧ (bmp x e).Junk ≤ B + 1 := by
  unfold bmp
  cases x <;> simp <;> omega
theorem add_bdd (x : Bool) (t : ByteArray) {T : List S74} {B : Int} (hB : 0 ≤ B) (h : bdd T B) : bdd (addT x T t) (B + 1) := by
  intro e he
  have up : ∀ {e : S74}, e ∈ T → 0 ≤ e.Good ∧ e.Good ≤ B + 1 ∧ 0 ≤ e.Junk ∧ e.Junk ≤ B + 1 := fun {e} he => by have := h e he; omega
  rw [add_eq] at he
  split at he
  · rename_i ha
    rcases List.mem_or_eq_of_mem_set he with he | rfl
    · exact up he
    · exact bmp_bd x (h _ (List.getElem_mem _))
  · rcases List.mem_append.1 he with he | he
    · exact up (List.mem_of_mem_take he)
    · rcases List.mem_cons.1 he with rfl | he
      · exact bmp_bd x ⟨by simp, hB, by simp, hB⟩
      · exact up (List.mem_of_mem_drop he)
theorem add_len (x : Bool) (t : ByteArray) (T : List S74) : (addT x T t).length = if atB T t = true then T.length else T.length + 1 := by
  rw [add_eq]
  split
  · rw [List.length_set]
  · have := lb_le T t
    rw [List.length_append, List.length_cons, List.length_take, List.length_drop]
    omega
set_option maxHeartbeats 1000000 in
theorem learn_loop (x : Bool) (K : List ByteArray) (hK : K.length ≤ 1000) (G J c1 c2 c4 c5 : Int) (c3 : Nat) (U : List S74) : ∀ (m k : Nat) (T : List S74), k + m = K.length → srt T → T.length ≤ 2000 + k → bdd T (1000000 + k) →
    Ok (classify_Learn_l10 x K (K.length : Int) (k : Int) G J T.length c1 c2 c3 c4 c5 T U) fun r => r.2.1.1 = G ∧ r.2.1.2.1 = J ∧ r.2.1.2.2 = (learn x T (K.drop k)).length ∧ r.2.2.2.2.1 = learn x T (K.drop k) := by
  intro m
  induction m with
  | zero =>
    intro k T hk hs hT hb
    have e : K.drop k = [] := List.drop_eq_nil_of_le (by omega)
    rw [e]
    refine .via classify_Learn_l10_eq ?_
    unfold classify_Learn_l10_t
    simp only [EC.decL_encL, EC.isL_encL, EC.encL_length, at_74_1, at_74_2, set_74_1_1, set_74_2_1, isE_9, at_9_0]
    refine ok_br (fun h => absurd (of_decide_eq_true h) (by omega)) (fun _ => ?_)
    refine ok_gd rfl (ok_gd rfl (ok_gd rfl (ok_some ⟨rfl, rfl, rfl, rfl⟩)))
  | succ m ih =>
    intro k T hk hs hT hb
    have hlt : k < K.length := by omega
    have e2 : IntKind.i64.wrap ((k : Int) + 1) = ((k + 1 : Nat) : Int) := wr_nat hlt (by omega)
    have hg : ∀ d, K.getD k d = K[k] := fun d => getD_in hlt
    have hdr : K.drop k = K[k] :: K.drop (k + 1) := drop_at hlt
    have hlb := lb_le T K[k]
    have hbn : bdd (addT x T K[k]) (1000000 + ((k + 1 : Nat) : Int)) := by
      have := add_bdd x K[k] (B := 1000000 + k) (by omega) hb
      have e : (1000000 + (k : Int) + 1) = 1000000 + ((k + 1 : Nat) : Int) := by omega
      rwa [e] at this
    have hsn := srt_add x K[k] hs
    have hln := add_len x K[k] T
    have hfin := ih (k + 1) (addT x T K[k]) (by omega) hsn (by rw [hln]; split <;> omega) hbn
    have hln2 : learn x T (K[k] :: K.drop (k + 1)) = learn x (addT x T K[k]) (K.drop (k + 1)) := rfl
    rw [hdr, hln2]
    have hae := add_eq x K[k] T
    refine .via classify_Learn_l10_eq ?_
    unfold classify_Learn_l10_t
    simp only [EC.decL_encL, EC.isL_encL, EC.encL_length, at_74_1, at_74_2, set_74_1_1, set_74_2_1, isE_9, at_9_0, Int.toNat_natCast, hg, e2]
    refine ok_br (fun h => ?_) (fun h => absurd (of_decide_eq_false h) (by omega))
    refine ok_gd (by simp) (ok_gd (by simp [hlt]) (ok_gd rfl (ok_at (find_s hs (by omega) K[k]) ?_)))
    simp only [Int.toNat_natCast, ins_enc]
    generalize K[k] = t at *
    refine ok_br (fun h1 => ?_) fun h1 => ?_
    · have h1 : atB T t = false := by simpa using h1
      rw [dif_neg (by simp [h1])] at hae
      rw [if_neg (by simp [h1])] at hln
      have hM : lb T t < (T.take (lb T t) ++ (⟨t, 0, 0⟩ : S74) :: T.drop (lb T t)).length := by
        rw [List.length_append, List.length_cons, List.length_take, List.length_drop]
        omega
      have hz : lb T t - (T.take (lb T t)).length = 0 := by rw [List.length_take]; omega
      have hMq : (T.take (lb T t) ++ (⟨t, 0, 0⟩ : S74) :: T.drop (lb T t))[lb T t]? = some ⟨t, 0, 0⟩ := by
        rw [List.getElem?_append_right (by rw [List.length_take]; omega), hz]
        rfl
      have hMe : (T.take (lb T t) ++ (⟨t, 0, 0⟩ : S74) :: T.drop (lb T t))[lb T t] = ⟨t, 0, 0⟩ := (List.getElem?_eq_some_iff.1 hMq).2
      have hMs : ∀ y : S74, (T.take (lb T t) ++ (⟨t, 0, 0⟩ : S74) :: T.drop (lb T t)).set (lb T t) y = T.take (lb T t) ++ y :: T.drop (lb T t) := fun y => by
        rw [List.set_append, if_neg (by rw [List.length_take]; omega), hz]
        rfl
      refine ok_gd (by
        have e1 : List.all (ec_74.encL T) tokB = true := tokB_all T
        have e3 : T.length ≤ 1000000 := by omega
        simp only [e1, Bool.and_eq_true, decide_eq_true_eq]
        exact ⟨⟨⟨⟨trivial, rfl⟩, by omega⟩, by omega⟩, e3⟩) ?_
      refine ok_gd (by simp; omega) (ok_gd (by simp; omega) ?_)
      simp only [g3_enc hM, pG_enc hM, pJ_enc hM, setG_enc hM, setJ_enc hM, atG_enc hM, atJ_enc hM, hMs, EC.decL_encL, EC.isL_encL, EC.encL_length, hMe]
      have w1 : IntKind.i64.wrap ((0 : Int) + 1) = 1 := by decide
      simp only [w1]
      rw [hln] at hfin
      refine ok_br (fun hx => ?_) fun hx => ?_
      · subst hx
        refine ok_gd rfl (ok_gd rfl (ok_gd rfl (ok_gd rfl (ok_gd rfl (ok_gd rfl ?_)))))
        rw [hae] at hfin ⊢
        exact hfin
      · subst hx
        refine ok_gd rfl (ok_gd rfl (ok_gd rfl (ok_gd rfl (ok_gd rfl (ok_gd rfl ?_)))))
        rw [hae] at hfin ⊢
        exact hfin
    · have h1 : atB T t = true := by simpa using h1
      obtain ⟨hM, hky⟩ := atB_get h1
      rw [dif_pos h1] at hae
      rw [if_pos h1] at hln
      have hbt := hb _ (List.getElem_mem hM)
      refine ok_gd (by simp; omega) (ok_gd (by simp; omega) ?_)
      simp only [g3_enc hM, pG_enc hM, pJ_enc hM, getD_in hM]
      have w1 : IntKind.i64.wrap (T[lb T t].Good + 1) = T[lb T t].Good + 1 := wr_in (by omega)
      have w2 : IntKind.i64.wrap (T[lb T t].Junk + 1) = T[lb T t].Junk + 1 := wr_in (by omega)
      simp only [w1, w2]
      rw [hln] at hfin
      refine ok_br (fun hx => ?_) fun hx => ?_
      · subst hx
        refine ok_gd rfl (ok_gd rfl (ok_gd rfl (ok_gd rfl (ok_gd rfl (ok_gd rfl ?_)))))
        rw [hae] at hfin ⊢
        exact hfin
      · subst hx
        refine ok_gd rfl (ok_gd rfl (ok_gd rfl (ok_gd rfl (ok_gd rfl (ok_gd rfl ?_)))))
        rw [hae] at hfin ⊢
        exact hfin
end Go.Proofs.YtomnbknaanlmaaaGreatDoor
namespace Go.Proofs.YtomnbknaanlmaaaGreatDoor
open Go.RowKit
theorem sub_eq (x : Bool) (t : ByteArray) : ∀ (T M : List S74), subT x T t = some M → ∃ h : atB T t = true, cn x (T[lb T t]'(atB_get h).1) ≠ 0 ∧ M = T.set (lb T t) (dmp x (T[lb T t]'(atB_get h).1))
  | [], M, h => by simp [subT] at h
  | e :: l, M, h => by
    unfold subT at h
    by_cases h1 : ltK (ky e) (L t) = true
    · have hl : lb (e :: l) t = lb l t + 1 := by rw [lb_cons, if_pos h1]
      have ha : atB (e :: l) t = atB l t := by rw [atB_cons, if_pos h1]
      rw [if_pos h1] at h
      cases hs : subT x l t with
      | none => rw [hs] at h; cases h
      | some M1 =>
        rw [hs] at h
        injection h with h
        subst h
        obtain ⟨h2, h3, h4⟩ := sub_eq x t l M1 hs
        refine ⟨by rw [ha]; exact h2, ?_, ?_⟩
        · simp only [hl, List.getElem_cons_succ]; exact h3
        · simp only [hl, List.set_cons_succ, List.getElem_cons_succ]; rw [h4]
    · have hl : lb (e :: l) t = 0 := by rw [lb_cons, if_neg h1]
      have ha : atB (e :: l) t = (ky e == L t) := by rw [atB_cons, if_neg h1]
      rw [if_neg h1] at h
      by_cases h2 : ky e = L t ∧ cn x e ≠ 0
      · rw [if_pos h2] at h
        injection h with h
        subst h
        refine ⟨by rw [ha]; simpa using h2.1, ?_, ?_⟩
        · simp only [hl, List.getElem_cons_zero]; exact h2.2
        · simp only [hl, List.set_cons_zero, List.getElem_cons_zero]
      · rw [if_neg h2] at h; cases h
theorem dmp_bd (x : Bool) {e : S74} {B : Int} (h : 0 ≤ e.Good ∧ e.Good ≤ B ∧ 0 ≤ e.Junk ∧ e.Junk ≤ B) (hc : cn x e ≠ 0) : 0 ≤ (dmp x e).Good ∧ (dmp x e).Good ≤ B ∧ 0 ≤ (dmp x e).Junk ∧ (dmp x e).Junk ≤ B := by
  unfold cn at hc
  unfold dmp
  cases x <;> simp at hc ⊢ <;> omega
set_option maxHeartbeats 1000000 in
theorem forget_loop (x : Bool) (K : List ByteArray) (hK : K.length ≤ 1000) (G J c1 c2 c4 c5 : Int) (c3 : Nat) (U : List S74) : ∀ (m k : Nat) (T M : List S74), k + m = K.length → srt T → T.length ≤ 4000 → bdd T 2000000 → forget x T (K.drop k) = some M →
    Ok (classify_Forget_l10 x K (K.length : Int) (k : Int) G J T.length c1 c2 c3 c4 c5 T U) fun r => ∃ q, r = .inr q ∧ q.2.1.1 = G ∧ q.2.1.2.1 = J ∧ q.2.1.2.2 = M.length ∧ q.2.2.2.2.1 = M ∧ bdd M 2000000 ∧ M.length ≤ 4000 := by
  intro m
  induction m with
  | zero =>
    intro k T M hk hs hT hb hf
    have e : K.drop k = [] := List.drop_eq_nil_of_le (by omega)
    rw [e] at hf
    injection hf with hf
    subst hf
    refine .via classify_Forget_l10_eq ?_
    unfold classify_Forget_l10_t
    simp only [EC.decL_encL, EC.isL_encL, EC.encL_length, at_74_1, at_74_2, set_74_1_1, set_74_2_1, isE_9, at_9_0]
    refine ok_br (fun h => absurd (of_decide_eq_true h) (by omega)) (fun _ => ?_)
    refine ok_gd rfl (ok_gd rfl (ok_gd rfl (ok_some ⟨_, rfl, rfl, rfl, rfl, rfl, hb, hT⟩)))
  | succ m ih =>
    intro k T M hk hs hT hb hf
    have hlt : k < K.length := by omega
    have e2 : IntKind.i64.wrap ((k : Int) + 1) = ((k + 1 : Nat) : Int) := wr_nat hlt (by omega)
    have hg : ∀ d, K.getD k d = K[k] := fun d => getD_in hlt
    have hdr : K.drop k = K[k] :: K.drop (k + 1) := drop_at hlt
    rw [hdr] at hf
    unfold forget at hf
    cases hsub : subT x T K[k] with
    | none => rw [hsub] at hf; cases hf
    | some T1 =>
    rw [hsub, Option.bind_some] at hf
    obtain ⟨h1, hcn, hT1⟩ := sub_eq x K[k] T T1 hsub
    obtain ⟨hM, hky⟩ := atB_get h1
    have hbt := hb _ (List.getElem_mem hM)
    have hs1 : srt T1 := srt_ky (sub_mem x K[k] hsub) hs
    have hl1 : T1.length = T.length := by rw [hT1, List.length_set]
    have hb1 : bdd T1 2000000 := fun e he => by
      rw [hT1] at he
      rcases List.mem_or_eq_of_mem_set he with he | rfl
      · exact hb e he
      · exact dmp_bd x hbt hcn
    have hfin := ih (k + 1) T1 M (by omega) hs1 (by omega) hb1 hf
    rw [hl1] at hfin
    refine .via classify_Forget_l10_eq ?_
    unfold classify_Forget_l10_t
    simp only [EC.decL_encL, EC.isL_encL, EC.encL_length, at_74_1, at_74_2, set_74_1_1, set_74_2_1, isE_9, at_9_0, Int.toNat_natCast, hg, e2]
    refine ok_br (fun h => ?_) (fun h => absurd (of_decide_eq_false h) (by omega))
    refine ok_gd (by simp) (ok_gd (by simp [hlt]) (ok_gd rfl (ok_at (find_s hs (by omega) K[k]) ?_)))
    simp only [Int.toNat_natCast]
    generalize K[k] = t at *
    refine ok_br (fun _ => ?_) fun h => absurd h (by simp [h1])
    refine ok_gd (by simp; omega) (ok_gd (by simp; omega) ?_)
    simp only [g3_enc hM, pG_enc hM, pJ_enc hM, getD_in hM]
    have w1 : IntKind.i64.wrap (T[lb T t].Good - 1) = T[lb T t].Good - 1 := wr_in (by omega)
    have w2 : IntKind.i64.wrap (T[lb T t].Junk - 1) = T[lb T t].Junk - 1 := wr_in (by omega)
    simp only [w1, w2]
    rw [hT1] at hfin
    refine ok_br (fun hx => ?_) fun hx => ?_
    · subst hx
      refine ok_gd rfl (ok_gd rfl (ok_br (fun h0 => ?_) fun h0 => ?_))
      · exact absurd (by simpa [cn] using h0) hcn
      · refine ok_gd (by simp; omega) (ok_gd (by simp; omega) (ok_br (fun _ => ?_) fun h => by cases h))
        refine ok_gd rfl (ok_gd rfl (ok_gd rfl (ok_gd rfl (ok_gd rfl (ok_gd rfl ?_)))))
        exact hfin
    · subst hx
      refine ok_gd rfl (ok_gd rfl (ok_br (fun h0 => ?_) fun h0 => ?_))
      · exact absurd (by simpa [cn] using h0) hcn
      · refine ok_gd (by simp; omega) (ok_gd (by simp; omega) (ok_br (fun h => by cases h) fun _ => ?_))
        refine ok_gd rfl (ok_gd rfl (ok_gd rfl (ok_gd rfl (ok_gd rfl (ok_gd rfl ?_)))))
        exact hfin
end Go.Proofs.YtomnbknaanlmaaaGreatDoor
