/- classify.Learn, classify.Forget and SameWords in plain words. -/
import Derived.Test.YtomnbknaanlmaaaGreatDoorZ11
namespace Go.Proofs.YtomnbknaanlmaaaGreatDoor
open Go.RowKit
theorem decN : EC.decL ec_74 [] = [] := rfl
theorem clone_s (T : List S74) (h : T.length ≤ 4000) : api_Token__s T = some (T.length, T) := by
  cases T with
  | nil => exact api_Token__nil
  | cons x xs =>
  refine api_Token__eq ?_
  unfold api_Token__t
  simp only [EC.decL_encL, EC.isL_encL, EC.encL_length, all_74]
  have e : (!(EC.encL ec_74 (x :: xs)).isEmpty) = true := rfl
  have h1 : decide (((x :: xs).length + (x :: xs).length / 4 + 192) * 32 ≤ 281474976710656) = true := by simp only [decide_eq_true_eq]; omega
  have h2 : decide ((x :: xs).length ≤ 9223372036854775807) = true := by simp only [decide_eq_true_eq]; omega
  simp only [e, h1, h2]
  rfl
theorem nam_add (x : Bool) {t : ByteArray} (ht : namB t = true) : ∀ {l : List S74}, (∀ e ∈ l, namB e.Text = true) → ∀ e ∈ addT x l t, namB e.Text = true := by
  intro l h e he
  rcases add_mem x t he with q | ⟨v, hv, q⟩
  · rw [BA_ext q]; exact ht
  · rw [BA_ext q]; exact h v hv
theorem nam_learn (x : Bool) : ∀ (k : List ByteArray) {l : List S74}, (∀ t ∈ k, namB t = true) → (∀ e ∈ l, namB e.Text = true) → ∀ e ∈ learn x l k, namB e.Text = true
  | [], _, _, h => h
  | t :: k, _, hk, h => nam_learn x k (fun u hu => hk u (by simp [hu])) (nam_add x (hk t (by simp)) h)
theorem VOk.bdd {G J : Int} {T : List S74} (h : VOk G J T) : bdd T 1000000 := fun e he => by
  have := h.bd.all e he
  have := h.g; have := h.j
  omega
theorem VOk.learn {G J : Int} {T : List S74} {K : List ByteArray} {x : Bool} (h : VOk G J T) (hk : KOk K) (hn : cp x (G, J) ≠ 1000000) (hl : (learn x T K).length ≤ 2000) : VOk (up x G J).1 (up x G J).2 (learn x T K) where
  g := by have := h.g; cases x <;> simp [up, cp] at hn ⊢ <;> omega
  j := by have := h.j; cases x <;> simp [up, cp] at hn ⊢ <;> omega
  len := hl
  nam := nam_learn x K hk.nam h.nam
  bd := bd_learn x hk.srt h.srt h.bd
  srt := srt_learn x K h.srt
theorem learn_s (G J : Int) (T : List S74) (K : List ByteArray) (x : Bool) : Ok (classify_Learn_s G J T K x) fun r => r.2.1 = 0 → VOk G J T ∧ KOk K ∧ r.1 = ((up x G J).1, (up x G J).2, learn x T K) ∧ VOk (up x G J).1 (up x G J).2 (learn x T K) := by
  refine .via classify_Learn_eq ?_
  unfold classify_Learn_t
  simp only [EC.decL_encL, EC.isL_encL, EC.encL_length]
  refine ok_gd rfl (ok_gd rfl (ok_bind (common_s G J T K) fun r0 h0 => ok_at (failed_s _ _) (ok_br (fun h => ok_some fun e => ?_) fun h => ?_)))
  · rw [show r0.1 = 0 from e] at h; simp at h
  · obtain ⟨hv, hk⟩ := h0.1 (by simpa using h)
    have hg := hv.g
    have hj := hv.j
    refine ok_br (fun hx => ?_) fun hx => ?_
    · subst hx
      refine ok_br (fun q => ok_at (fault_s _ _) (ok_some fun e => by simp at e)) fun q => ?_
      have hn : J ≠ 1000000 := by simpa using q
      have w : IntKind.i64.wrap (J + 1) = J + 1 := wr_in (by omega)
      refine ok_gd rfl (ok_at (clone_s T (by have := hv.len; omega)) (ok_gd rfl (ok_gd rfl ?_)))
      simp only [w]
      have hl := learn_loop true K hk.len G (J + 1) 0 0 0 0 0 [] K.length 0 T (by omega) hv.srt (by have := hv.len; omega) (fun e he => by have := hv.bdd e he; omega)
      rw [Int.natCast_zero] at hl
      refine ok_bind hl fun r hr => ?_
      rw [List.drop_zero] at hr
      refine ok_br (fun q => ok_at (fault_s _ _) (ok_some fun e => by simp at e)) fun q => ok_at none_s (ok_gd rfl (ok_some fun _ => ?_))
      have hlen := of_decide_eq_false q
      rw [hr.2.2.1] at hlen
      have hc : VOk (up true G J).1 (up true G J).2 (learn true T K) := hv.learn hk (by simpa [cp] using hn) (by omega)
      exact ⟨hv, hk, Prod.ext hr.1 (Prod.ext hr.2.1 hr.2.2.2), hc⟩
    · subst hx
      refine ok_br (fun q => ok_at (fault_s _ _) (ok_some fun e => by simp at e)) fun q => ?_
      have hn : G ≠ 1000000 := by simpa using q
      have w : IntKind.i64.wrap (G + 1) = G + 1 := wr_in (by omega)
      refine ok_gd rfl (ok_at (clone_s T (by have := hv.len; omega)) (ok_gd rfl (ok_gd rfl ?_)))
      simp only [w]
      have hl := learn_loop false K hk.len (G + 1) J 0 0 0 0 0 [] K.length 0 T (by omega) hv.srt (by have := hv.len; omega) (fun e he => by have := hv.bdd e he; omega)
      rw [Int.natCast_zero] at hl
      refine ok_bind hl fun r hr => ?_
      rw [List.drop_zero] at hr
      refine ok_br (fun q => ok_at (fault_s _ _) (ok_some fun e => by simp at e)) fun q => ok_at none_s (ok_gd rfl (ok_some fun _ => ?_))
      have hlen := of_decide_eq_false q
      rw [hr.2.2.1] at hlen
      have hc : VOk (up false G J).1 (up false G J).2 (learn false T K) := hv.learn hk (by simpa [cp] using hn) (by omega)
      exact ⟨hv, hk, Prod.ext hr.1 (Prod.ext hr.2.1 hr.2.2.2), hc⟩
/-- one message less -/
def dn (x : Bool) (G J : Int) : Int × Int := if x then (G, J - 1) else (G - 1, J)
theorem left_nz {e : S74} (h : 0 ≤ e.Good ∧ e.Good ≤ 2000000 ∧ 0 ≤ e.Junk ∧ e.Junk ≤ 2000000) : leftB (ec_74.enc e) = nzB e := by
  have w : IntKind.i64.wrap (e.Good + e.Junk) = e.Good + e.Junk := wr_in (by omega)
  show (!(IntKind.i64.wrap (e.Good + e.Junk) == 0)) = (e.Good + e.Junk != 0)
  rw [w]; rfl
theorem filt_left : ∀ {M : List S74}, bdd M 2000000 → List.filter leftB (ec_74.encL M) = ec_74.encL (M.filter nzB)
  | [], _ => rfl
  | e :: M, h => by
    have ih := filt_left (M := M) fun u hu => h u (by simp [hu])
    have he := left_nz (h e (by simp))
    have e1 : ec_74.encL (e :: M) = ec_74.enc e :: ec_74.encL M := rfl
    rw [e1, List.filter_cons, List.filter_cons, he, ih]
    cases nzB e <;> rfl
theorem forget_s {G J : Int} {T M : List S74} {K : List ByteArray} {x : Bool} (hv : VOk G J T) (hk : KOk K) (hc : cp x (G, J) ≠ 0) (hf : forget x T K = some M) (hr : VOk (dn x G J).1 (dn x G J).2 (M.filter nzB)) :
    classify_Forget_s G J T K x = some (((dn x G J).1, (dn x G J).2, M.filter nzB), (0, 0)) := by
  suffices h : Ok (classify_Forget_s G J T K x) fun r => r = (((dn x G J).1, (dn x G J).2, M.filter nzB), (0, 0)) by
    obtain ⟨r, e, rfl⟩ := h; exact e
  have hg := hv.g
  have hj := hv.j
  have hvf := (valF_ok (dn x G J).1 (dn x G J).2 (M.filter nzB)).2 hr
  refine .via classify_Forget_eq ?_
  unfold classify_Forget_t
  simp only [EC.decL_encL, EC.isL_encL, EC.encL_length]
  refine ok_gd rfl (ok_gd rfl (ok_bind (common_s G J T K) fun r0 h0 => ok_at (failed_s _ _) (ok_br (fun h => ?_) fun h => ?_)))
  · rw [h0.2 ⟨hv, hk⟩] at h; simp at h
  · have fin : ∀ (a b : Int), (a, b) = dn x G J → ∀ r3 : ((Unit × Unit) × ((Int × Int × Nat) × (Int × Int) × (List S74))) ⊕ ((Bool × Unit × Unit × Unit × (List ByteArray) × Int × Int × Bool) × ((Int × Int × Nat) × (Int × Int × Nat) × (Int × Int) × (List S74) × (List S74))), (∃ q, r3 = .inr q ∧ q.2.1.1 = a ∧ q.2.1.2.1 = b ∧ q.2.1.2.2 = M.length ∧ q.2.2.2.2.1 = M ∧ bdd M 2000000 ∧ M.length ≤ 4000) → ∃ q, r3 = .inr q ∧ q.2.1.1 = (dn x G J).1 ∧ q.2.1.2.1 = (dn x G J).2 ∧ q.2.2.2.2.1 = M ∧ bdd M 2000000 := by
      rintro a b e r3 ⟨q, h1, h2, h3, _, h5, h6, _⟩
      exact ⟨q, h1, by rw [h2, ← e], by rw [h3, ← e], h5, h6⟩
    refine ok_br (fun hx => ?_) fun hx => ?_
    · subst hx
      refine ok_br (fun q => absurd (by simpa [cp] using q) hc) fun q => ?_
      have w : IntKind.i64.wrap (J - 1) = J - 1 := wr_in (by omega)
      refine ok_gd rfl (ok_at (clone_s T (by have := hv.len; omega)) (ok_gd rfl (ok_gd rfl ?_)))
      simp only [w]
      have hl := forget_loop true K hk.len G (J - 1) 0 0 0 0 0 [] K.length 0 T M (by omega) hv.srt (by have := hv.len; omega) (fun e he => by have := hv.bdd e he; omega) (by rw [List.drop_zero]; exact hf)
      rw [Int.natCast_zero] at hl
      refine ok_bind hl fun r hr => ?_
      obtain ⟨q, rfl, e1, e2, e3, hb⟩ := fin _ _ rfl r hr
      simp only [Sum.elim_inr, e1, e2, e3, filt_left hb, decN, EC.decL_encL, EC.isL_encL]
      refine ok_gd (tokB_all M) (ok_br (fun h1 => ?_) fun h1 => ?_)
      · have hz : M.filter nzB = [] := by
          have := (Bool.and_eq_true _ _ ▸ h1).1
          rw [List.isEmpty_iff] at this
          exact List.map_eq_nil_iff.1 this
        rw [hz] at hvf ⊢
        refine ok_at (validate_s _ _ _) (ok_at (failed_s _ _) (ok_br (fun h => ?_) fun h => ok_at none_s (ok_some rfl)))
        rw [hvf] at h; simp at h
      · refine ok_gd rfl (ok_at (validate_s _ _ _) (ok_at (failed_s _ _) (ok_br (fun h => ?_) fun h => ok_at none_s (ok_gd rfl (ok_some rfl)))))
        rw [hvf] at h; simp at h
    · subst hx
      refine ok_br (fun q => absurd (by simpa [cp] using q) hc) fun q => ?_
      have w : IntKind.i64.wrap (G - 1) = G - 1 := wr_in (by omega)
      refine ok_gd rfl (ok_at (clone_s T (by have := hv.len; omega)) (ok_gd rfl (ok_gd rfl ?_)))
      simp only [w]
      have hl := forget_loop false K hk.len (G - 1) J 0 0 0 0 0 [] K.length 0 T M (by omega) hv.srt (by have := hv.len; omega) (fun e he => by have := hv.bdd e he; omega) (by rw [List.drop_zero]; exact hf)
      rw [Int.natCast_zero] at hl
      refine ok_bind hl fun r hr => ?_
      obtain ⟨q, rfl, e1, e2, e3, hb⟩ := fin _ _ rfl r hr
      simp only [Sum.elim_inr, e1, e2, e3, filt_left hb, decN, EC.decL_encL, EC.isL_encL]
      refine ok_gd (tokB_all M) (ok_br (fun h1 => ?_) fun h1 => ?_)
      · have hz : M.filter nzB = [] := by
          have := (Bool.and_eq_true _ _ ▸ h1).1
          rw [List.isEmpty_iff] at this
          exact List.map_eq_nil_iff.1 this
        rw [hz] at hvf ⊢
        refine ok_at (validate_s _ _ _) (ok_at (failed_s _ _) (ok_br (fun h => ?_) fun h => ok_at none_s (ok_some rfl)))
        rw [hvf] at h; simp at h
      · refine ok_gd rfl (ok_at (validate_s _ _ _) (ok_at (failed_s _ _) (ok_br (fun h => ?_) fun h => ok_at none_s (ok_gd rfl (ok_some rfl)))))
        rw [hvf] at h; simp at h
end Go.Proofs.YtomnbknaanlmaaaGreatDoor
namespace Go.Proofs.YtomnbknaanlmaaaGreatDoor
open Go.RowKit
theorem ba_self (a : ByteArray) : (a == a) = true := by
  cases a with
  | mk d => show (d == d) = true; exact beq_self_eq_true d
theorem same_loop (G J : Int) (T : List S74) (hT : T.length ≤ 4000) : ∀ (m k : Nat), k + m = T.length → Ok (posthouseref5_SameWords_l4 k G J T G J T) fun r => ∃ q, r = .inr q := by
  intro m
  induction m with
  | zero =>
    intro k hk
    refine .via posthouseref5_SameWords_l4_eq ?_
    unfold posthouseref5_SameWords_l4_t
    simp only [EC.decL_encL, EC.isL_encL, EC.encL_length, isE_74, at_74_0, at_74_1, at_74_2]
    refine ok_br (fun h => absurd (of_decide_eq_true h) (by omega)) (fun _ => ok_gd rfl (ok_gd rfl (ok_some ⟨_, rfl⟩)))
  | succ m ih =>
    intro k hk
    have hlt : k < T.length := by omega
    have e2 : IntKind.i64.wrap ((k : Int) + 1) = ((k + 1 : Nat) : Int) := wr_nat hlt (by omega)
    refine .via posthouseref5_SameWords_l4_eq ?_
    unfold posthouseref5_SameWords_l4_t
    simp only [EC.decL_encL, EC.isL_encL, EC.encL_length, isE_74, at_74_0, at_74_1, at_74_2, e2, Int.toNat_natCast]
    refine ok_br (fun h => ?_) (fun h => absurd (of_decide_eq_false h) (by omega))
    have hg : (decide (k < T.length) && decide (k < T.length)) = true := by simp [hlt]
    refine ok_gd (by simp) (ok_gd hg (ok_gd (by simp) (ok_gd hg (ok_br (fun h => ?_) fun h => ok_gd rfl (ok_gd rfl (ih (k + 1) (by omega)))))))
    have e : ∀ b : ByteArray, (b == b) = true := ba_self
    simp only [e, beq_self_eq_true, Bool.and_true, Bool.not_true] at h
    cases h
theorem same_s (G J : Int) (T : List S74) (hT : T.length ≤ 4000) : posthouseref5_SameWords_s G J T G J T = some true := by
  refine posthouseref5_SameWords_eq ?_
  unfold posthouseref5_SameWords_t
  have h := same_loop G J T hT T.length 0 (by omega)
  rw [Int.natCast_zero] at h
  obtain ⟨r, hr, q, rfl⟩ := h
  simp only [EC.decL_encL, EC.isL_encL, EC.encL_length, bne_self_eq_false, hr]
  rfl
end Go.Proofs.YtomnbknaanlmaaaGreatDoor
namespace Go.Proofs.YtomnbknaanlmaaaGreatDoor
open Go.RowKit
theorem KOk_of {K : List ByteArray} (h : tokOk K) : KOk K := by
  obtain ⟨h1, h2, h3⟩ := h
  refine ⟨h1, fun s hs => ?_, adj_srtK.1 fun i hi h0 => ?_⟩
  · have := h2 s hs
    simp [namB, this]
  · have hl : i - 1 < K.length := by omega
    have e : K.getD (i - 1) ⟨#[]⟩ = K[i - 1] := getD_in hl
    have := h3 (i - 1) K[i - 1] K[i] (List.getElem?_eq_getElem hl) (by rw [show i - 1 + 1 = i by omega]; exact List.getElem?_eq_getElem hi)
    rw [toList_L, toList_L] at this
    rw [e]
    simp [notLt, ltK, this]
end Go.Proofs.YtomnbknaanlmaaaGreatDoor
