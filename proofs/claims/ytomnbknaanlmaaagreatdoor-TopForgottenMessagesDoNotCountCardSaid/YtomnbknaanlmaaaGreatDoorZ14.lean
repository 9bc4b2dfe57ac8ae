/- A swap and a comparison in slices.SortStableFunc's instance answer. -/
import Derived.Test.YtomnbknaanlmaaaGreatDoorZ12
import Derived.Test.YtomnbknaanlmaaaGreatDoorH3
import Derived.Test.YtomnbknaanlmaaaGreatDoorZ09
namespace Go.Proofs.YtomnbknaanlmaaaGreatDoor
open Go.RowKit
theorem score1_s (a b : Int) : ∃ r, classify_Score_1_s a b = some r := by
  have hd : ∀ n : Int, ∃ r, classify_distance_s n = some r := fun n => ⟨_, classify_distance_eq rfl⟩
  obtain ⟨r0, h0⟩ := hd b
  obtain ⟨r1, h1⟩ := hd a
  refine ⟨IntKind.i64.wrap (r0 - r1), classify_Score_1_eq ?_⟩
  unfold classify_Score_1_t
  rw [h0, Option.bind_some, h1, Option.bind_some]
section
variable {M : List Int} {i : Nat} (h : i < M.length)
include h
theorem g1_enc : (decide (i < (ec_3.encL M).length) && ((List.getD (ec_3.encL M) i []).length == 1)) = true := by
  rw [EC.getD_lt _ _ h, EC.encL_length]
  simp only [h, decide_true, Bool.true_and]
  rfl
theorem p1_enc : isP [.int .i64] 0 (List.getD (ec_3.encL M) i []) = true := by rw [EC.getD_lt _ _ h]; rfl
theorem set1_enc (n : Int) : List.set (ec_3.encL M) i (splice (List.getD (ec_3.encL M) i []) 0 [.int .i64 n]) = ec_3.encL (M.set i n) := by
  rw [EC.getD_lt _ _ h, ← EC_set]
  rfl
end
theorem ge_ok {p data : Nat} (h : p < data) : (decide ((0 : Int) ≤ (p : Int)) && decide ((p : Int) < (data : Int))) = true := by
  simp only [Bool.and_eq_true, decide_eq_true_eq]
  omega
theorem swap_ok {β : Type} {data p q : Nat} {xx yy : Int} {M : List Int} (f : List Int → Option β) {Q : β → Prop} (hx : xx = (p : Int)) (hy : yy = (q : Int)) (hM : M.length = data) (hp : p < data) (hq : q < data) (hk : ∀ M' : List Int, M'.length = data → Ok (f M') Q) :
    Ok (gdE ((decide ((0 : Int) ≤ xx)) && (decide (xx < ((data : Nat) : Int)))) <| (gdE ((decide ((Int.toNat xx) < (List.length (EC.encL ec_3 M)))) && ((List.length (List.getD (EC.encL ec_3 M) (Int.toNat xx) [])) == (1 : Nat))) <| (gdE (isP [(K1.int Go.IntKind.i64)] (0 : Nat) (List.getD (EC.encL ec_3 M) (Int.toNat xx) [])) <| (gdE ((decide ((0 : Int) ≤ yy)) && (decide (yy < ((data : Nat) : Int)))) <| (gdE ((decide ((Int.toNat yy) < (List.length (EC.encL ec_3 M)))) && ((List.length (List.getD (EC.encL ec_3 M) (Int.toNat yy) [])) == (1 : Nat))) <| (gdE (isP [(K1.int Go.IntKind.i64)] (0 : Nat) (List.getD (EC.encL ec_3 M) (Int.toNat yy) [])) <| (gdE ((decide ((0 : Int) ≤ yy)) && (decide (yy < ((data : Nat) : Int)))) <| (gdE ((decide ((Int.toNat yy) < (List.length (EC.encL ec_3 M)))) && ((List.length (List.getD (EC.encL ec_3 M) (Int.toNat yy) [])) == (1 : Nat))) <| (gdE ((decide ((0 : Int) ≤ xx)) && (decide (xx < ((data : Nat) : Int)))) <| (gdE ((decide ((Int.toNat xx) < (List.length (List.set (EC.encL ec_3 M) (Int.toNat yy) (splice (List.getD (EC.encL ec_3 M) (Int.toNat yy) []) (0 : Nat) [(C.int Go.IntKind.i64 (intOf (List.getD (List.getD (EC.encL ec_3 M) (Int.toNat xx) []) (0 : Nat) C.ne)))]))))) && ((List.length (List.getD (List.set (EC.encL ec_3 M) (Int.toNat yy) (splice (List.getD (EC.encL ec_3 M) (Int.toNat yy) []) (0 : Nat) [(C.int Go.IntKind.i64 (intOf (List.getD (List.getD (EC.encL ec_3 M) (Int.toNat xx) []) (0 : Nat) C.ne)))])) (Int.toNat xx) [])) == (1 : Nat))) <| (gdE (EC.isL ec_3 (List.set (List.set (EC.encL ec_3 M) (Int.toNat yy) (splice (List.getD (EC.encL ec_3 M) (Int.toNat yy) []) (0 : Nat) [(C.int Go.IntKind.i64 (intOf (List.getD (List.getD (EC.encL ec_3 M) (Int.toNat xx) []) (0 : Nat) C.ne)))])) (Int.toNat xx) (splice (List.getD (List.set (EC.encL ec_3 M) (Int.toNat yy) (splice (List.getD (EC.encL ec_3 M) (Int.toNat yy) []) (0 : Nat) [(C.int Go.IntKind.i64 (intOf (List.getD (List.getD (EC.encL ec_3 M) (Int.toNat xx) []) (0 : Nat) C.ne)))])) (Int.toNat xx) []) (0 : Nat) [(C.int Go.IntKind.i64 (intOf (List.getD (List.getD (EC.encL ec_3 M) (Int.toNat yy) []) (0 : Nat) C.ne)))]))) <| (f (EC.decL ec_3 (List.set (List.set (EC.encL ec_3 M) (Int.toNat yy) (splice (List.getD (EC.encL ec_3 M) (Int.toNat yy) []) (0 : Nat) [(C.int Go.IntKind.i64 (intOf (List.getD (List.getD (EC.encL ec_3 M) (Int.toNat xx) []) (0 : Nat) C.ne)))])) (Int.toNat xx) (splice (List.getD (List.set (EC.encL ec_3 M) (Int.toNat yy) (splice (List.getD (EC.encL ec_3 M) (Int.toNat yy) []) (0 : Nat) [(C.int Go.IntKind.i64 (intOf (List.getD (List.getD (EC.encL ec_3 M) (Int.toNat xx) []) (0 : Nat) C.ne)))])) (Int.toNat xx) []) (0 : Nat) [(C.int Go.IntKind.i64 (intOf (List.getD (List.getD (EC.encL ec_3 M) (Int.toNat yy) []) (0 : Nat) C.ne)))]))))))))))))))) Q := by
  subst hx hy
  have hp' : p < M.length := by omega
  have hq' : q < M.length := by omega
  have hp2 : ∀ n : Int, p < (M.set q n).length := fun n => by rw [List.length_set]; exact hp'
  simp only [Int.toNat_natCast, set1_enc hq', g1_enc hq', g1_enc hp', p1_enc hp', p1_enc hq', set1_enc (hp2 _), g1_enc (hp2 _), EC.decL_encL, EC.isL_encL, ge_ok hp, ge_ok hq]
  exact hk _ (by rw [List.length_set, List.length_set]; exact hM)
theorem cmp_ok {β : Type} {data p q : Nat} {xx yy : Int} {M : List Int} (k : Int → Option β) {Q : β → Prop} (hx : xx = (p : Int)) (hy : yy = (q : Int)) (hM : M.length = data) (hp : p < data) (hq : q < data) (hk : ∀ r : Int, Ok (k r) Q) :
    Ok (gdE ((decide ((0 : Int) ≤ xx)) && (decide (xx < ((data : Nat) : Int)))) <| (gdE ((decide ((Int.toNat xx) < (List.length (EC.encL ec_3 M)))) && ((List.length (List.getD (EC.encL ec_3 M) (Int.toNat xx) [])) == (1 : Nat))) <| (gdE (isP [(K1.int Go.IntKind.i64)] (0 : Nat) (List.getD (EC.encL ec_3 M) (Int.toNat xx) [])) <| (gdE ((decide ((0 : Int) ≤ yy)) && (decide (yy < ((data : Nat) : Int)))) <| (gdE ((decide ((Int.toNat yy) < (List.length (EC.encL ec_3 M)))) && ((List.length (List.getD (EC.encL ec_3 M) (Int.toNat yy) [])) == (1 : Nat))) <| (gdE (isP [(K1.int Go.IntKind.i64)] (0 : Nat) (List.getD (EC.encL ec_3 M) (Int.toNat yy) [])) <| (Option.bind (classify_Score_1_s (intOf (List.getD (List.getD (EC.encL ec_3 M) (Int.toNat xx) []) (0 : Nat) C.ne)) (intOf (List.getD (List.getD (EC.encL ec_3 M) (Int.toNat yy) []) (0 : Nat) C.ne))) k))))))) Q := by
  subst hx hy
  have hp' : p < M.length := by omega
  have hq' : q < M.length := by omega
  simp only [Int.toNat_natCast, g1_enc hq', g1_enc hp', p1_enc hp', p1_enc hq', ge_ok hp, ge_ok hq]
  obtain ⟨r, hr⟩ := score1_s (intOf (List.getD (List.getD (EC.encL ec_3 M) p []) 0 C.ne)) (intOf (List.getD (List.getD (EC.encL ec_3 M) q []) 0 C.ne))
  exact ok_gd rfl (ok_gd rfl (ok_gd rfl (ok_gd rfl (ok_gd rfl (ok_gd rfl (ok_at hr (hk r)))))))
end Go.Proofs.YtomnbknaanlmaaaGreatDoor
namespace Go.Proofs.YtomnbknaanlmaaaGreatDoor
open Go.RowKit
theorem dl (M : List Int) : EC.decL ec_3 (EC.encL ec_3 M) = M := EC.decL_encL _ _
theorem gdl {β : Type} {M : List Int} {o : Option β} {Q : β → Prop} (h : Ok o Q) : Ok (gdE (EC.isL ec_3 (EC.encL ec_3 M)) o) Q := ok_gd (EC.isL_encL _ _) h
theorem sw (n : Int) (h : -1000000 ≤ n ∧ n ≤ 1000000) : IntKind.i64.wrap n = n := wr_in (by omega)
theorem dec_t {p : Prop} [Decidable p] (h : (decide p == true) = true) : p := by simpa using h
theorem dec_f {p : Prop} [Decidable p] (h : (decide p == true) = false) : ¬ p := by simpa using h
/-- insertion: one element moves down -/
theorem ins4 (data a b : Nat) (i : Int) (hd : data ≤ 100000) : ∀ (j : Nat) (M : List Int), M.length = data → j < data → Ok (slices_insertionSortCmpFunc_h3_l4 data (a : Int) (b : Int) i (j : Int) M) fun r => (∃ j', r.1 = (data, (a : Int), (b : Int), (), i, j', false)) ∧ r.2.length = data
  | 0, M, hM, hj => by
    refine .via slices_insertionSortCmpFunc_h3_l4_eq ?_
    unfold slices_insertionSortCmpFunc_h3_l4_t
    refine ok_br (fun h => ?_) fun _ => gdl (ok_some ⟨⟨_, rfl⟩, by rw [dl]; exact hM⟩)
    have := dec_t h
    omega
  | j + 1, M, hM, hj => by
    refine .via slices_insertionSortCmpFunc_h3_l4_eq ?_
    unfold slices_insertionSortCmpFunc_h3_l4_t
    have e : IntKind.i64.wrap (((j + 1 : Nat) : Int) - 1) = (j : Int) := by rw [sw _ (by omega)]; omega
    refine ok_br (fun h => ?_) fun _ => gdl (ok_some ⟨⟨_, rfl⟩, by rw [dl]; exact hM⟩)
    refine cmp_ok _ rfl e hM hj (by omega) fun r => ok_br (fun _ => ?_) fun _ => gdl (ok_some ⟨⟨_, rfl⟩, by rw [dl]; exact hM⟩)
    refine swap_ok (fun l => slices_insertionSortCmpFunc_h3_l4 data (a : Int) (b : Int) i (IntKind.i64.wrap (((j + 1 : Nat) : Int) - 1)) l) e rfl hM (by omega) hj fun M' h' => ?_
    show Ok (slices_insertionSortCmpFunc_h3_l4 data (a : Int) (b : Int) i (IntKind.i64.wrap (((j + 1 : Nat) : Int) - 1)) M') _
    rw [e]
    exact ins4 data a b i hd j M' h' (by omega)
theorem ins1 (data a b : Nat) (hd : data ≤ 100000) (hb : b ≤ data) : ∀ (m i : Nat) (M : List Int), M.length = data → b ≤ i + m → i ≤ 100001 → Ok (slices_insertionSortCmpFunc_h3_l1 data (a : Int) (b : Int) (i : Int) M) fun r => r.2.length = data
  | 0, i, M, hM, hi, hi2 => by
    refine .via slices_insertionSortCmpFunc_h3_l1_eq ?_
    unfold slices_insertionSortCmpFunc_h3_l1_t
    refine ok_br (fun h => absurd (of_decide_eq_true h) (by omega)) fun _ => gdl (ok_some (by rw [dl]; exact hM))
  | m + 1, i, M, hM, hi, hi2 => by
    refine .via slices_insertionSortCmpFunc_h3_l1_eq ?_
    unfold slices_insertionSortCmpFunc_h3_l1_t
    refine ok_br (fun h => gdl ?_) fun _ => gdl (ok_some (by rw [dl]; exact hM))
    have h := of_decide_eq_true h
    rw [dl]
    refine ok_bind (ins4 data a b i hd i M hM (by omega)) fun r hr => ?_
    obtain ⟨⟨j', h1⟩, h2⟩ := hr
    rw [h1]
    have e : IntKind.i64.wrap ((i : Int) + 1) = ((i + 1 : Nat) : Int) := by rw [sw _ (by omega)]; omega
    refine gdl ?_
    simp only [e, dl]
    exact ins1 data a b hd hb m (i + 1) r.2 h2 (by omega) (by omega)
theorem ins (data a b : Nat) (hd : data ≤ 100000) (hb : b ≤ data) (ha : a ≤ 100000) (M : List Int) (hM : M.length = data) : Ok (slices_insertionSortCmpFunc_h3 data (a : Int) (b : Int) M) fun r => r.2.2.length = data := by
  refine .via slices_insertionSortCmpFunc_h3_eq ?_
  unfold slices_insertionSortCmpFunc_h3_t
  have e : IntKind.i64.wrap ((a : Int) + 1) = ((a + 1 : Nat) : Int) := by rw [sw _ (by omega)]; omega
  simp only [e, dl]
  exact gdl (ok_bind (ins1 data a b hd hb b (a + 1) M hM (by omega) (by omega)) fun r hr => gdl (ok_some hr))
/-- two rows change places -/
theorem swr1 (data a b n : Nat) (hd : data ≤ 100000) (ha : a + n ≤ data) (hb : b + n ≤ data) : ∀ (m i : Nat) (M : List Int), M.length = data → i + m = n → Ok (slices_swapRangeCmpFunc_h6_l1 data (a : Int) (b : Int) (n : Int) (i : Int) M) fun r => r.2.length = data
  | 0, i, M, hM, hi => by
    refine .via slices_swapRangeCmpFunc_h6_l1_eq ?_
    unfold slices_swapRangeCmpFunc_h6_l1_t
    refine ok_br (fun h => absurd (of_decide_eq_true h) (by omega)) fun _ => gdl (ok_some (by rw [dl]; exact hM))
  | m + 1, i, M, hM, hi => by
    refine .via slices_swapRangeCmpFunc_h6_l1_eq ?_
    unfold slices_swapRangeCmpFunc_h6_l1_t
    refine ok_br (fun h => ?_) fun h => absurd (of_decide_eq_false h) (by omega)
    have e1 : IntKind.i64.wrap ((b : Int) + (i : Int)) = ((b + i : Nat) : Int) := by rw [sw _ (by omega)]; omega
    have e2 : IntKind.i64.wrap ((a : Int) + (i : Int)) = ((a + i : Nat) : Int) := by rw [sw _ (by omega)]; omega
    have e3 : IntKind.i64.wrap ((i : Int) + 1) = ((i + 1 : Nat) : Int) := by rw [sw _ (by omega)]; omega
    refine swap_ok (fun l => slices_swapRangeCmpFunc_h6_l1 data (a : Int) (b : Int) (n : Int) (IntKind.i64.wrap ((i : Int) + 1)) l) e1 e2 hM (by omega) (by omega) fun M' h' => ?_
    show Ok (slices_swapRangeCmpFunc_h6_l1 data (a : Int) (b : Int) (n : Int) (IntKind.i64.wrap ((i : Int) + 1)) M') _
    rw [e3]
    exact swr1 data a b n hd ha hb m (i + 1) M' h' (by omega)
theorem swr (data a b n : Nat) (hd : data ≤ 100000) (ha : a + n ≤ data) (hb : b + n ≤ data) (M : List Int) (hM : M.length = data) : Ok (slices_swapRangeCmpFunc_h6 data (a : Int) (b : Int) (n : Int) M) fun r => r.2.2.length = data := by
  refine .via slices_swapRangeCmpFunc_h6_eq ?_
  unfold slices_swapRangeCmpFunc_h6_t
  have h := swr1 data a b n hd ha hb n 0 M hM (by omega)
  rw [Int.natCast_zero] at h
  simp only [dl]
  exact gdl (ok_bind h fun r hr => gdl (ok_some hr))
theorem rot2 (data m : Nat) (hd : data ≤ 100000) : ∀ (s i j : Nat) (M : List Int), M.length = data → i + j ≤ s → 0 < i → 0 < j → i ≤ m → m + j ≤ data → Ok (slices_rotateCmpFunc_h5_l2 data (m : Int) (i : Int) (j : Int) M) fun r => (∃ k j' : Nat, r.1 = (data, (m : Int), (), (k : Int), (j' : Int), false) ∧ k ≤ m ∧ m + k ≤ data) ∧ r.2.length = data
  | 0, i, j, M, hM, hs, h1, h2, h3, h4 => by omega
  | s + 1, i, j, M, hM, hs, h1, h2, h3, h4 => by
    refine .via slices_rotateCmpFunc_h5_l2_eq ?_
    unfold slices_rotateCmpFunc_h5_l2_t
    have e1 : IntKind.i64.wrap ((m : Int) - (i : Int)) = ((m - i : Nat) : Int) := by rw [sw _ (by omega)]; omega
    have e2 : IntKind.i64.wrap (IntKind.i64.wrap ((m : Int) + (j : Int)) - (i : Int)) = (m : Int) + j - i := by rw [sw ((m : Int) + j) (by omega), sw _ (by omega)]
    refine ok_br (fun hne => ok_br (fun h => gdl ?_) fun h => gdl ?_) fun he => gdl (ok_some ⟨⟨i, j, rfl, h3, ?_⟩, by rw [dl]; exact hM⟩)
    · have h := of_decide_eq_true h
      have e3 : IntKind.i64.wrap ((i : Int) - (j : Int)) = ((i - j : Nat) : Int) := by rw [sw _ (by omega)]; omega
      simp only [e1, e3, dl]
      refine ok_bind (swr data (m - i) m j hd (by omega) h4 M hM) fun r hr => gdl ?_
      exact rot2 data m hd s (i - j) j r.2.2 hr (by omega) (by omega) h2 (by omega) h4
    · have h := of_decide_eq_false h
      have hne : (i : Int) ≠ j := by simpa using hne
      have e2' : (m : Int) + j - i = ((m + j - i : Nat) : Int) := by omega
      have e3 : IntKind.i64.wrap ((j : Int) - (i : Int)) = ((j - i : Nat) : Int) := by rw [sw _ (by omega)]; omega
      simp only [e1, e2, e2', e3, dl]
      refine ok_bind (swr data (m - i) (m + j - i) i hd (by omega) (by omega) M hM) fun r hr => gdl ?_
      exact rot2 data m hd s i (j - i) r.2.2 hr (by omega) h1 (by omega) h3 (by omega)
    · have he : (i : Int) = j := by simpa using he
      omega
theorem rot (data a m b : Nat) (hd : data ≤ 100000) (h1 : a < m) (h2 : m < b) (hb : b ≤ data) (M : List Int) (hM : M.length = data) : Ok (slices_rotateCmpFunc_h5 data (a : Int) (m : Int) (b : Int) M) fun r => r.2.2.length = data := by
  refine .via slices_rotateCmpFunc_h5_eq ?_
  unfold slices_rotateCmpFunc_h5_t
  have e1 : IntKind.i64.wrap ((m : Int) - (a : Int)) = ((m - a : Nat) : Int) := by rw [sw _ (by omega)]; omega
  have e2 : IntKind.i64.wrap ((b : Int) - (m : Int)) = ((b - m : Nat) : Int) := by rw [sw _ (by omega)]; omega
  simp only [e1, e2, dl]
  refine gdl (ok_bind (rot2 data m hd _ (m - a) (b - m) M hM (Nat.le_refl _) (by omega) (by omega) (by omega) (by omega)) fun r hr => gdl ?_)
  obtain ⟨⟨k, j', e, hk1, hk2⟩, hl⟩ := hr
  have e3 : IntKind.i64.wrap ((m : Int) - (k : Int)) = ((m - k : Nat) : Int) := by rw [sw _ (by omega)]; omega
  simp only [e, e3]
  exact ok_bind (swr data (m - k) m k hd (by omega) hk2 r.2 hl) fun r hr => gdl (ok_some hr)
end Go.Proofs.YtomnbknaanlmaaaGreatDoor
namespace Go.Proofs.YtomnbknaanlmaaaGreatDoor
open Go.RowKit
theorem ok_brT {β : Type} {p : Prop} [Decidable p] {a b : Option β} {Q : β → Prop} (h1 : p → Ok a Q) (h2 : ¬ p → Ok b Q) : Ok (brE (decide p == true) a b) Q := ok_br (fun h => h1 (dec_t h)) fun h => h2 (dec_f h)
theorem ok_brD {β : Type} {p : Prop} [Decidable p] {a b : Option β} {Q : β → Prop} (h1 : p → Ok a Q) (h2 : ¬ p → Ok b Q) : Ok (brE (decide p) a b) Q := ok_br (fun h => h1 (of_decide_eq_true h)) fun h => h2 (of_decide_eq_false h)
theorem half (i j : Nat) (h : i + j ≤ 1000000) : IntKind.i64.wrap (Int.fdiv (IntKind.u64.wrap (IntKind.i64.wrap ((i : Int) + (j : Int)))) ((2 : Int) ^ (Min.min (Int.toNat (1 : Int)) (IntKind.bits IntKind.u64)))) = (((i + j) / 2 : Nat) : Int) := mid_s (by omega)
theorem sm3 (data a : Nat) (hd : data ≤ 100000) (ha : a < data) : ∀ (s i j : Nat) (M : List Int), M.length = data → i ≤ j → j ≤ i + s → j ≤ data → Ok (slices_symMergeCmpFunc_h4_l3 data (a : Int) (i : Int) (j : Int) M) fun r => (∃ i' j' : Nat, r.1 = (data, (a : Int), (), (i' : Int), (j' : Int), false) ∧ i ≤ i' ∧ i' ≤ j) ∧ r.2.length = data := by
  intro s
  induction s with
  | zero =>
    intro i j M hM hij hs hj
    refine .via slices_symMergeCmpFunc_h4_l3_eq ?_
    unfold slices_symMergeCmpFunc_h4_l3_t
    exact ok_brD (fun h => absurd h (by omega)) fun _ => gdl (ok_some ⟨⟨i, j, rfl, by omega, by omega⟩, by rw [dl]; exact hM⟩)
  | succ s ih =>
    intro i j M hM hij hs hj
    refine .via slices_symMergeCmpFunc_h4_l3_eq ?_
    unfold slices_symMergeCmpFunc_h4_l3_t
    have e1 := half i j (by omega)
    have e2 : IntKind.i64.wrap ((((i + j) / 2 : Nat) : Int) + 1) = (((i + j) / 2 + 1 : Nat) : Int) := by rw [sw _ (by omega)]; omega
    refine ok_brD (fun h => ?_) fun _ => gdl (ok_some ⟨⟨i, j, rfl, by omega, by omega⟩, by rw [dl]; exact hM⟩)
    refine cmp_ok _ e1 rfl hM (by omega) ha fun r => ok_br (fun _ => gdl ?_) fun _ => gdl ?_
    · rw [e1, e2, dl]
      obtain ⟨x, hx, ⟨i', j', h1, h2, h3⟩, h4⟩ := ih ((i + j) / 2 + 1) j M hM (by omega) (by omega) hj
      exact ⟨x, hx, ⟨i', j', h1, by omega, h3⟩, h4⟩
    · rw [e1, dl]
      obtain ⟨x, hx, ⟨i', j', h1, h2, h3⟩, h4⟩ := ih i ((i + j) / 2) M hM (by omega) (by omega) (by omega)
      exact ⟨x, hx, ⟨i', j', h1, h2, by omega⟩, h4⟩
theorem sm15 (data m : Nat) (hd : data ≤ 100000) (hm : m < data) : ∀ (s i j : Nat) (M : List Int), M.length = data → i ≤ j → j ≤ i + s → j ≤ data → Ok (slices_symMergeCmpFunc_h4_l15 data (m : Int) (i : Int) (j : Int) M) fun r => (∃ i' j' : Nat, r.1 = (data, (m : Int), (), (i' : Int), (j' : Int), false) ∧ i ≤ i' ∧ i' ≤ j) ∧ r.2.length = data := by
  intro s
  induction s with
  | zero =>
    intro i j M hM hij hs hj
    refine .via slices_symMergeCmpFunc_h4_l15_eq ?_
    unfold slices_symMergeCmpFunc_h4_l15_t
    exact ok_brD (fun h => absurd h (by omega)) fun _ => gdl (ok_some ⟨⟨i, j, rfl, by omega, by omega⟩, by rw [dl]; exact hM⟩)
  | succ s ih =>
    intro i j M hM hij hs hj
    refine .via slices_symMergeCmpFunc_h4_l15_eq ?_
    unfold slices_symMergeCmpFunc_h4_l15_t
    have e1 := half i j (by omega)
    have e2 : IntKind.i64.wrap ((((i + j) / 2 : Nat) : Int) + 1) = (((i + j) / 2 + 1 : Nat) : Int) := by rw [sw _ (by omega)]; omega
    refine ok_brD (fun h => ?_) fun _ => gdl (ok_some ⟨⟨i, j, rfl, by omega, by omega⟩, by rw [dl]; exact hM⟩)
    refine cmp_ok _ rfl e1 hM hm (by omega) fun r => ok_br (fun _ => gdl ?_) fun _ => gdl ?_
    · rw [e1, e2, dl]
      obtain ⟨x, hx, ⟨i', j', h1, h2, h3⟩, h4⟩ := ih ((i + j) / 2 + 1) j M hM (by omega) (by omega) hj
      exact ⟨x, hx, ⟨i', j', h1, by omega, h3⟩, h4⟩
    · rw [e1, dl]
      obtain ⟨x, hx, ⟨i', j', h1, h2, h3⟩, h4⟩ := ih i ((i + j) / 2) M hM (by omega) (by omega) (by omega)
      exact ⟨x, hx, ⟨i', j', h1, h2, by omega⟩, h4⟩
theorem sm9 (data i : Nat) (hd : data ≤ 100000) (hi : i ≤ data) : ∀ (s k : Nat) (M : List Int), M.length = data → i ≤ k + s → k ≤ data → Ok (slices_symMergeCmpFunc_h4_l9 data (i : Int) (k : Int) M) fun r => r.2.length = data := by
  intro s
  induction s with
  | zero =>
    intro k M hM hs hk
    refine .via slices_symMergeCmpFunc_h4_l9_eq ?_
    unfold slices_symMergeCmpFunc_h4_l9_t
    rw [sw ((i : Int) - 1) (by omega)]
    exact ok_brD (fun h => absurd h (by omega)) fun _ => gdl (ok_some (by rw [dl]; exact hM))
  | succ s ih =>
    intro k M hM hs hk
    refine .via slices_symMergeCmpFunc_h4_l9_eq ?_
    unfold slices_symMergeCmpFunc_h4_l9_t
    rw [sw ((i : Int) - 1) (by omega)]
    have e1 : IntKind.i64.wrap ((k : Int) + 1) = ((k + 1 : Nat) : Int) := by rw [sw _ (by omega)]; omega
    refine ok_brD (fun h => ?_) fun _ => gdl (ok_some (by rw [dl]; exact hM))
    refine swap_ok (fun l => slices_symMergeCmpFunc_h4_l9 data (i : Int) (IntKind.i64.wrap ((k : Int) + 1)) l) e1 rfl hM (by omega) (by omega) fun M' h' => ?_
    show Ok (slices_symMergeCmpFunc_h4_l9 data (i : Int) (IntKind.i64.wrap ((k : Int) + 1)) M') _
    rw [e1]
    exact ih (k + 1) M' h' (by omega) (by omega)
theorem sm21 (data i : Nat) (hd : data ≤ 100000) : ∀ (k : Nat) (M : List Int), M.length = data → k < data → Ok (slices_symMergeCmpFunc_h4_l21 data (i : Int) (k : Int) M) fun r => r.2.length = data
  | 0, M, hM, hk => by
    refine .via slices_symMergeCmpFunc_h4_l21_eq ?_
    unfold slices_symMergeCmpFunc_h4_l21_t
    exact ok_brD (fun h => absurd h (by omega)) fun _ => gdl (ok_some (by rw [dl]; exact hM))
  | k + 1, M, hM, hk => by
    refine .via slices_symMergeCmpFunc_h4_l21_eq ?_
    unfold slices_symMergeCmpFunc_h4_l21_t
    have e1 : IntKind.i64.wrap (((k + 1 : Nat) : Int) - 1) = (k : Int) := by rw [sw _ (by omega)]; omega
    refine ok_brD (fun h => ?_) fun _ => gdl (ok_some (by rw [dl]; exact hM))
    refine swap_ok (fun l => slices_symMergeCmpFunc_h4_l21 data (i : Int) (IntKind.i64.wrap (((k + 1 : Nat) : Int) - 1)) l) e1 rfl hM (by omega) (by omega) fun M' h' => ?_
    show Ok (slices_symMergeCmpFunc_h4_l21 data (i : Int) (IntKind.i64.wrap (((k + 1 : Nat) : Int) - 1)) M') _
    rw [e1]
    exact sm21 data i hd k M' h' (by omega)
theorem sm33 (data p lo hi : Nat) (a m b mid n : Int) (_hd : data ≤ 100000) (hp : p ≤ 200000) (hH : ∀ c, lo ≤ c → c < hi → c < data ∧ c ≤ p ∧ p - c < data) (hhi : hi ≤ 100000) : ∀ (s i j : Nat) (M : List Int), M.length = data → i ≤ j → j ≤ i + s → lo ≤ i → j ≤ hi →
    Ok (slices_symMergeCmpFunc_h4_l33 data a m b mid n (i : Int) (j : Int) (p : Int) M) fun r => (∃ i' j' : Nat, r.1 = (data, a, m, b, (), mid, n, (i' : Int), (j' : Int), (p : Int), false) ∧ lo ≤ i' ∧ i' ≤ hi) ∧ r.2.length = data := by
  intro s
  induction s with
  | zero =>
    intro i j M hM hij hs hl hj
    refine .via slices_symMergeCmpFunc_h4_l33_eq ?_
    unfold slices_symMergeCmpFunc_h4_l33_t
    exact ok_brD (fun h => absurd h (by omega)) fun _ => gdl (ok_some ⟨⟨i, j, rfl, by omega, by omega⟩, by rw [dl]; exact hM⟩)
  | succ s ih =>
    intro i j M hM hij hs hl hj
    refine .via slices_symMergeCmpFunc_h4_l33_eq ?_
    unfold slices_symMergeCmpFunc_h4_l33_t
    have e1 := half i j (by omega)
    have e2 : IntKind.i64.wrap ((((i + j) / 2 : Nat) : Int) + 1) = (((i + j) / 2 + 1 : Nat) : Int) := by rw [sw _ (by omega)]; omega
    refine ok_brD (fun h => ?_) fun _ => gdl (ok_some ⟨⟨i, j, rfl, by omega, by omega⟩, by rw [dl]; exact hM⟩)
    obtain ⟨g1, g2, g3⟩ := hH ((i + j) / 2) (by omega) (by omega)
    have e3 : IntKind.i64.wrap ((p : Int) - IntKind.i64.wrap (Int.fdiv (IntKind.u64.wrap (IntKind.i64.wrap ((i : Int) + (j : Int)))) ((2 : Int) ^ (Min.min (Int.toNat (1 : Int)) (IntKind.bits IntKind.u64))))) = ((p - (i + j) / 2 : Nat) : Int) := by rw [e1, sw _ (by omega)]; omega
    refine cmp_ok _ e3 e1 hM g3 g1 fun r => ok_br (fun _ => gdl ?_) fun _ => gdl ?_
    · rw [e1, e2, dl]
      exact ih ((i + j) / 2 + 1) j M hM (by omega) (by omega) (by omega) hj
    · rw [e1, dl]
      exact ih i ((i + j) / 2) M hM (by omega) (by omega) hl (by omega)
end Go.Proofs.YtomnbknaanlmaaaGreatDoor
namespace Go.Proofs.YtomnbknaanlmaaaGreatDoor
open Go.RowKit
theorem eqb_t {a b : Int} (h : (a == b) = true) : a = b := by simpa using h
theorem eqb_f {a b : Int} (h : (a == b) = false) : a ≠ b := by simpa using h
set_option maxHeartbeats 2000000 in
theorem symm (data : Nat) (hd : data ≤ 100000) : ∀ (s a m b : Nat) (M : List Int), b - a ≤ s → M.length = data → a < m → m < b → b ≤ data → Ok (slices_symMergeCmpFunc_h4 data (a : Int) (m : Int) (b : Int) M) fun r => r.2.2.length = data := by
  intro s
  induction s with
  | zero => intro a m b M h1 _ h2 h3; omega
  | succ s ih =>
    intro a m b M hs hM ham hmb hb
    refine .via slices_symMergeCmpFunc_h4_eq ?_
    unfold slices_symMergeCmpFunc_h4_t
    have e1 : IntKind.i64.wrap ((m : Int) - (a : Int)) = ((m - a : Nat) : Int) := by rw [sw _ (by omega)]; omega
    have e2 : IntKind.i64.wrap ((b : Int) - (m : Int)) = ((b - m : Nat) : Int) := by rw [sw _ (by omega)]; omega
    have e3 := half a b (by omega)
    have e4 : IntKind.i64.wrap ((((a + b) / 2 : Nat) : Int) + (m : Int)) = (((a + b) / 2 + m : Nat) : Int) := by rw [sw _ (by omega)]; omega
    have e5 : IntKind.i64.wrap ((((a + b) / 2 + m : Nat) : Int) - 1) = (((a + b) / 2 + m - 1 : Nat) : Int) := by rw [sw _ (by omega)]; omega
    simp only [e1, e2, e3, e4, e5, dl]
    refine ok_br (fun _ => gdl ?_) fun _ => ok_br (fun _ => gdl ?_) fun hne2 => ok_brD (fun hgt => gdl ?_) fun hle => gdl ?_
    · refine ok_bind (sm3 data a hd (by omega) (b - m) m b M hM (by omega) (by omega) hb) fun r0 h0 => ?_
      obtain ⟨⟨i', j', q, q1, q2⟩, hl⟩ := h0
      rw [q]
      exact gdl (ok_bind (sm9 data i' hd (by omega) i' a r0.2 hl (by omega) (by omega)) fun r1 h1 => gdl (ok_some h1))
    · refine ok_bind (sm15 data m hd (by omega) (m - a) a m M hM (by omega) (by omega) (by omega)) fun r0 h0 => ?_
      obtain ⟨⟨i', j', q, q1, q2⟩, hl⟩ := h0
      rw [q]
      exact gdl (ok_bind (sm21 data i' hd m r0.2 hl (by omega)) fun r1 h1 => gdl (ok_some h1))
    · have e6 : IntKind.i64.wrap ((((a + b) / 2 + m : Nat) : Int) - (b : Int)) = (((a + b) / 2 + m - b : Nat) : Int) := by rw [sw _ (by omega)]; omega
      simp only [e6]
      refine ok_bind (sm33 data ((a + b) / 2 + m - 1) ((a + b) / 2 + m - b) ((a + b) / 2) _ _ _ _ _ hd (by omega) (fun c h1 h2 => by omega) (by omega) ((a + b) / 2) ((a + b) / 2 + m - b) ((a + b) / 2) M hM (by omega) (by omega) (Nat.le_refl _) (Nat.le_refl _)) fun r0 h0 => ?_
      obtain ⟨⟨st, j', q, q1, q2⟩, hl⟩ := h0
      have e7 : IntKind.i64.wrap ((((a + b) / 2 + m : Nat) : Int) - (st : Int)) = (((a + b) / 2 + m - st : Nat) : Int) := by rw [sw _ (by omega)]; omega
      simp only [q, e7]
      have hb1 : a ≤ st := by omega
      have hb2 : (a + b) / 2 + m - st ≤ b := by omega
      have hb3 : m ≤ (a + b) / 2 + m - st := by omega
      have hb4 : a < (a + b) / 2 ∧ (a + b) / 2 < b := by omega
      generalize (a + b) / 2 + m - st = en at *
      generalize (a + b) / 2 = mid at *
      have tail2 : ∀ X : List Int, X.length = data → Ok (brE (decide ((mid : Int) < (en : Int)) == true) (brE (decide ((en : Int) < (b : Int))) (gdE (EC.isL ec_3 (EC.encL ec_3 X)) (Option.bind (slices_symMergeCmpFunc_h4 data (mid : Int) (en : Int) (b : Int) X) fun r => gdE (EC.isL ec_3 (EC.encL ec_3 r.2.2)) (some ((), ((), r.2.2))))) (gdE (EC.isL ec_3 (EC.encL ec_3 X)) (some ((), ((), X))))) (gdE (EC.isL ec_3 (EC.encL ec_3 X)) (some ((), ((), X))))) fun r => r.2.2.length = data := fun X hX => by
        refine ok_brT (fun g1 => ok_brD (fun g2 => gdl ?_) fun _ => gdl (ok_some hX)) fun _ => gdl (ok_some hX)
        exact ok_bind (ih mid en b X (by omega) hX (by omega) (by omega) hb) fun r hr => gdl (ok_some hr)
      refine ok_brT (fun g1 => ok_brD (fun g2 => gdl ?_) fun _ => ?_) fun _ => ?_
      · refine ok_bind (rot data st m en hd (by omega) (by omega) (by omega) _ hl) fun r1 h1 => ?_
        refine ok_brT (fun g3 => ok_brD (fun g4 => gdl ?_) fun _ => tail2 _ h1) fun _ => tail2 _ h1
        exact ok_bind (ih a st mid r1.2.2 (by omega) h1 (by omega) (by omega) (by omega)) fun r2 h2 => tail2 _ h2
      · refine ok_brT (fun g3 => ok_brD (fun g4 => gdl ?_) fun _ => tail2 _ hl) fun _ => tail2 _ hl
        exact ok_bind (ih a st mid r0.2 (by omega) hl (by omega) (by omega) (by omega)) fun r2 h2 => tail2 _ h2
      · refine ok_brT (fun g3 => ok_brD (fun g4 => gdl ?_) fun _ => tail2 _ hl) fun _ => tail2 _ hl
        exact ok_bind (ih a st mid r0.2 (by omega) hl (by omega) (by omega) (by omega)) fun r2 h2 => tail2 _ h2
    · refine ok_bind (sm33 data ((a + b) / 2 + m - 1) a m _ _ _ _ _ hd (by omega) (fun c h1 h2 => by omega) (by omega) m a m M hM (by omega) (by omega) (Nat.le_refl _) (Nat.le_refl _)) fun r0 h0 => ?_
      obtain ⟨⟨st, j', q, q1, q2⟩, hl⟩ := h0
      have e7 : IntKind.i64.wrap ((((a + b) / 2 + m : Nat) : Int) - (st : Int)) = (((a + b) / 2 + m - st : Nat) : Int) := by rw [sw _ (by omega)]; omega
      simp only [q, e7]
      have hb1 : a ≤ st := by omega
      have hb2 : (a + b) / 2 + m - st ≤ b := by omega
      have hb3 : m ≤ (a + b) / 2 + m - st := by omega
      have hb4 : a < (a + b) / 2 ∧ (a + b) / 2 < b := by omega
      generalize (a + b) / 2 + m - st = en at *
      generalize (a + b) / 2 = mid at *
      have tail2 : ∀ X : List Int, X.length = data → Ok (brE (decide ((mid : Int) < (en : Int)) == true) (brE (decide ((en : Int) < (b : Int))) (gdE (EC.isL ec_3 (EC.encL ec_3 X)) (Option.bind (slices_symMergeCmpFunc_h4 data (mid : Int) (en : Int) (b : Int) X) fun r => gdE (EC.isL ec_3 (EC.encL ec_3 r.2.2)) (some ((), ((), r.2.2))))) (gdE (EC.isL ec_3 (EC.encL ec_3 X)) (some ((), ((), X))))) (gdE (EC.isL ec_3 (EC.encL ec_3 X)) (some ((), ((), X))))) fun r => r.2.2.length = data := fun X hX => by
        refine ok_brT (fun g1 => ok_brD (fun g2 => gdl ?_) fun _ => gdl (ok_some hX)) fun _ => gdl (ok_some hX)
        exact ok_bind (ih mid en b X (by omega) hX (by omega) (by omega) hb) fun r hr => gdl (ok_some hr)
      refine ok_brT (fun g1 => ok_brD (fun g2 => gdl ?_) fun _ => ?_) fun _ => ?_
      · refine ok_bind (rot data st m en hd (by omega) (by omega) (by omega) _ hl) fun r1 h1 => ?_
        refine ok_brT (fun g3 => ok_brD (fun g4 => gdl ?_) fun _ => tail2 _ h1) fun _ => tail2 _ h1
        exact ok_bind (ih a st mid r1.2.2 (by omega) h1 (by omega) (by omega) (by omega)) fun r2 h2 => tail2 _ h2
      · refine ok_brT (fun g3 => ok_brD (fun g4 => gdl ?_) fun _ => tail2 _ hl) fun _ => tail2 _ hl
        exact ok_bind (ih a st mid r0.2 (by omega) hl (by omega) (by omega) (by omega)) fun r2 h2 => tail2 _ h2
      · refine ok_brT (fun g3 => ok_brD (fun g4 => gdl ?_) fun _ => tail2 _ hl) fun _ => tail2 _ hl
        exact ok_bind (ih a st mid r0.2 (by omega) hl (by omega) (by omega) (by omega)) fun r2 h2 => tail2 _ h2
theorem stb2 (data : Nat) (hd : data ≤ 100000) : ∀ (s a b : Nat) (M : List Int), M.length = data → data + 1 ≤ b + s → a ≤ data → b ≤ 100100 → Ok (slices_stableCmpFunc_h2_l2 data (data : Int) 20 (a : Int) (b : Int) M) fun r => (∃ a' b' : Nat, r.1 = (data, (data : Int), (), 20, (a' : Int), (b' : Int), false) ∧ a' ≤ data) ∧ r.2.length = data := by
  intro s
  induction s with
  | zero =>
    intro a b M hM hs ha hb
    refine .via slices_stableCmpFunc_h2_l2_eq ?_
    unfold slices_stableCmpFunc_h2_l2_t
    exact ok_brD (fun h => absurd h (by omega)) fun _ => gdl (ok_some ⟨⟨a, b, rfl, ha⟩, by rw [dl]; exact hM⟩)
  | succ s ih =>
    intro a b M hM hs ha hb
    refine .via slices_stableCmpFunc_h2_l2_eq ?_
    unfold slices_stableCmpFunc_h2_l2_t
    simp only [dl]
    refine ok_brD (fun h => gdl ?_) fun _ => gdl (ok_some ⟨⟨a, b, rfl, ha⟩, hM⟩)
    have e : IntKind.i64.wrap ((b : Int) + 20) = ((b + 20 : Nat) : Int) := by rw [sw _ (by omega)]; omega
    rw [e]
    exact ok_bind (ins data a b hd (by omega) (by omega) M hM) fun r hr => gdl (ih b (b + 20) r.2.2 hr (by omega) (by omega) (by omega))
theorem stb9 (data z : Nat) (hd : data ≤ 100000) (hz : 0 < z) (hz2 : z ≤ 100000) : ∀ (s a : Nat) (M : List Int), M.length = data → data + 1 ≤ a + 2 * z + s → a ≤ data → Ok (slices_stableCmpFunc_h2_l9 data (data : Int) (z : Int) (a : Int) ((a + 2 * z : Nat) : Int) M) fun r => (∃ a' b' : Nat, r.1 = (data, (data : Int), (), (z : Int), (a' : Int), (b' : Int), false) ∧ a' ≤ data) ∧ r.2.length = data := by
  intro s
  induction s with
  | zero =>
    intro a M hM hs ha
    refine .via slices_stableCmpFunc_h2_l9_eq ?_
    unfold slices_stableCmpFunc_h2_l9_t
    exact ok_brD (fun h => absurd h (by omega)) fun _ => gdl (ok_some ⟨⟨a, _, rfl, ha⟩, by rw [dl]; exact hM⟩)
  | succ s ih =>
    intro a M hM hs ha
    refine .via slices_stableCmpFunc_h2_l9_eq ?_
    unfold slices_stableCmpFunc_h2_l9_t
    simp only [dl]
    refine ok_brD (fun h => gdl ?_) fun _ => gdl (ok_some ⟨⟨a, _, rfl, ha⟩, hM⟩)
    have e0 : IntKind.i64.wrap ((2 : Int) * (z : Int)) = ((2 * z : Nat) : Int) := by rw [sw _ (by omega)]; omega
    have e1 : IntKind.i64.wrap ((a : Int) + (z : Int)) = ((a + z : Nat) : Int) := by rw [sw _ (by omega)]; omega
    have e : IntKind.i64.wrap (((a + 2 * z : Nat) : Int) + ((2 * z : Nat) : Int)) = (((a + 2 * z) + 2 * z : Nat) : Int) := by rw [sw _ (by omega)]; omega
    rw [e0, e1, e]
    exact ok_bind (symm data hd _ a (a + z) (a + 2 * z) M (Nat.le_refl _) hM (by omega) (by omega) (by omega)) fun r hr => gdl (ih (a + 2 * z) r.2.2 hr (by omega) (by omega))
theorem stb7 (data : Nat) (hd : data ≤ 100000) : ∀ (s z : Nat) (M : List Int), M.length = data → data ≤ z + s → 0 < z → z ≤ 300000 → Ok (slices_stableCmpFunc_h2_l7 data (data : Int) (z : Int) M) fun r => r.2.length = data := by
  intro s
  induction s with
  | zero =>
    intro z M hM hs hz hz2
    refine .via slices_stableCmpFunc_h2_l7_eq ?_
    unfold slices_stableCmpFunc_h2_l7_t
    exact ok_brD (fun h => absurd h (by omega)) fun _ => gdl (ok_some (by rw [dl]; exact hM))
  | succ s ih =>
    intro z M hM hs hz hz2
    refine .via slices_stableCmpFunc_h2_l7_eq ?_
    unfold slices_stableCmpFunc_h2_l7_t
    simp only [dl]
    refine ok_brD (fun h => gdl ?_) fun _ => gdl (ok_some hM)
    have e0 : IntKind.i64.wrap ((2 : Int) * (z : Int)) = ((0 + 2 * z : Nat) : Int) := by rw [sw _ (by omega)]; omega
    have e1 : IntKind.i64.wrap ((z : Int) * 2) = ((2 * z : Nat) : Int) := by rw [sw _ (by omega)]; omega
    rw [e0]
    have h9 := stb9 data z hd hz (by omega) (data + 1) 0 M hM (by omega) (by omega)
    rw [Int.natCast_zero] at h9
    refine ok_bind h9 fun r hr => ?_
    obtain ⟨⟨a', b', q, qa⟩, hl⟩ := hr
    have e2 : IntKind.i64.wrap ((a' : Int) + (z : Int)) = ((a' + z : Nat) : Int) := by rw [sw _ (by omega)]; omega
    simp only [q, e1, e2]
    refine ok_brD (fun h2 => gdl ?_) fun _ => gdl ?_
    · exact ok_bind (symm data hd _ a' (a' + z) data r.2 (Nat.le_refl _) hl (by omega) (by omega) (Nat.le_refl _)) fun r1 h1 => gdl (ih (2 * z) r1.2.2 h1 (by omega) (by omega) (by omega))
    · exact ih (2 * z) r.2 hl (by omega) (by omega) (by omega)
theorem stb (data : Nat) (hd : data ≤ 100000) (M : List Int) (hM : M.length = data) : Ok (slices_stableCmpFunc_h2 data (data : Int) M) fun r => r.2.2.length = data := by
  refine .via slices_stableCmpFunc_h2_eq ?_
  unfold slices_stableCmpFunc_h2_t
  simp only [dl]
  have h2 := stb2 data hd (data + 1) 0 20 M hM (by omega) (by omega) (by omega)
  refine gdl (ok_bind h2 fun r hr => ?_)
  obtain ⟨⟨a', b', q, qa⟩, hl⟩ := hr
  simp only [q]
  refine gdl (ok_bind (ins data a' data hd (Nat.le_refl _) (by omega) r.2 hl) fun r1 h1 => gdl ?_)
  have h7 := stb7 data hd data 20 r1.2.2 h1 (by omega) (by omega) (by omega)
  exact ok_bind h7 fun r2 h2 => gdl (ok_some h2)
theorem sorts (M : List Int) (hd : M.length ≤ 100000) : Ok (slices_SortStableFunc_h1 M.length M) fun r => r.2.2.length = M.length := by
  refine .via slices_SortStableFunc_h1_eq ?_
  unfold slices_SortStableFunc_h1_t
  simp only [dl]
  exact gdl (ok_bind (stb M.length hd M rfl) fun r hr => gdl (ok_some hr))
end Go.Proofs.YtomnbknaanlmaaaGreatDoor
namespace Go.Proofs.YtomnbknaanlmaaaGreatDoor
open Go.RowKit
set_option maxRecDepth 1000000 in
theorem scr_run : callD Tryz.prog (fzL lv) X0.c (execD Tryz.prog lv X0 200) 5 [] = some (.c (.bool true), []) := by kernel_rfl
end Go.Proofs.YtomnbknaanlmaaaGreatDoor
namespace Go.Proofs.YtomnbknaanlmaaaGreatDoor
open Go.RowKit
def spl_ca : Cod (List V) ByteArray := lOne (vC cStr)
def spl_cr : Cod (V × List B) (List ByteArray × Int × Int) := cFstU (cPair (vTup (lCons (vC (cSl ec_9)) (lOne (vAgg (lCons (vC (cInt .i64)) (lOne (vC (cInt .i64)))))))) lNil)
theorem spl_call (x : ByteArray) (r : List ByteArray × Int × Int) (h : splP x = some r) : Call Tryz.prog lv X0 4 (spl_ca.enc x) = some (spl_cr.enc r) := by
  have : X0.c 4 (spl_ca.enc x) = some (spl_cr.enc r) := by
    show (splP x).map splR = _
    rw [h]
    rfl
  unfold Call callD
  rw [this]
noncomputable def spl_e : Ent Tryz.prog lv X0 := entS Tryz.prog lv X0 4 [] spl_ca spl_cr (fun x => splP x) spl_call
def scr_ca : Cod (List V) Unit := lNil
def scr_cr : Cod (V × List B) Bool := cFstU (cPair (vC cBool) lNil)
def scrS : Option Bool := some true
theorem scr_call (x : Unit) (r : Bool) (h : scrS = some r) : Call Tryz.prog lv X0 5 (scr_ca.enc x) = some (scr_cr.enc r) := by
  cases r with
  | true => exact Call_fuel scr_run
  | false => unfold scrS at h; cases h
noncomputable def scr_e : Ent Tryz.prog lv X0 := entS Tryz.prog lv X0 5 [] scr_ca scr_cr (fun _ => scrS) scr_call
noncomputable def tabt : List (Ent Tryz.prog lv X0) := spl_e :: scr_e :: tab_classify_Score
end Go.Proofs.YtomnbknaanlmaaaGreatDoor
namespace Go.Proofs.YtomnbknaanlmaaaGreatDoor
open Go.RowKit
set_option maxRecDepth 100000
noncomputable section
def posthousetop_TopForgottenMessagesDoNotCount_ca : Cod (List V) ((Int × Int × (List S74)) × ByteArray × ByteArray × Bool × Bool × ByteArray) := (lCons (vAgg (lCons (vC (cInt .i64)) (lCons (vC (cInt .i64)) (lOne (vC (cSl ec_74)))))) (lCons (vC cStr) (lCons (vC cStr) (lCons (vC cBool) (lCons (vC cBool) (lOne (vC cStr)))))))
def posthousetop_TopForgottenMessagesDoNotCount_cr : Cod (V × List B) Bool := (cFstU (cPair (vC cBool) lNil))
def posthousetop_TopForgottenMessagesDoNotCount_s (w_Good : Int) (w_Junk : Int) (w_Tokens : (List S74)) (a : ByteArray) (b : ByteArray) (x : Bool) (y : Bool) (text : ByteArray) : Option Bool := fS Tryz.prog lv X0 3 posthousetop_TopForgottenMessagesDoNotCount_ca posthousetop_TopForgottenMessagesDoNotCount_cr ((w_Good, w_Junk, w_Tokens), a, b, x, y, text)
def posthousetop_TopForgottenMessagesDoNotCount_t (w_Good : Int) (w_Junk : Int) (w_Tokens : (List S74)) (a : ByteArray) (b : ByteArray) (x : Bool) (y : Bool) (text : ByteArray) : Option Bool :=
 (Option.bind (splP a) fun r0 =>
 (Option.bind (splP b) fun r1 =>
 (Option.bind (splP text) fun r2 =>
 (brE ((((r0).2).1 != 0) == false)
 (brE ((((r1).2).1 != 0) == false)
 (brE (((r2).2).1 != 0)
 (some true)
 (gdE (EC.isL ec_74 (EC.encL ec_74 w_Tokens)) <|
 (gdE (EC.isL ec_9 (EC.encL ec_9 (r0).1)) <|
 (Option.bind (classify_Learn_s w_Good w_Junk (EC.decL ec_74 (EC.encL ec_74 w_Tokens)) (EC.decL ec_9 (EC.encL ec_9 (r0).1)) x) fun r3 =>
 (gdE (EC.isL ec_74 (EC.encL ec_74 (((r3).1).2).2)) <|
 (gdE (EC.isL ec_9 (EC.encL ec_9 (r1).1)) <|
 (Option.bind (classify_Learn_s ((r3).1).1 (((r3).1).2).1 (EC.decL ec_74 (EC.encL ec_74 (((r3).1).2).2)) (EC.decL ec_9 (EC.encL ec_9 (r1).1)) y) fun r4 =>
 (gdE (EC.isL ec_74 (EC.encL ec_74 w_Tokens)) <|
 (gdE (EC.isL ec_9 (EC.encL ec_9 (r1).1)) <|
 (Option.bind (classify_Learn_s w_Good w_Junk (EC.decL ec_74 (EC.encL ec_74 w_Tokens)) (EC.decL ec_9 (EC.encL ec_9 (r1).1)) y) fun r5 =>
 (brE ((((r3).2).1 != 0) == false)
 (brE ((((r4).2).1 != 0) == false)
 (brE (((r5).2).1 != 0)
 (some true)
 (gdE (EC.isL ec_74 (EC.encL ec_74 (((r4).1).2).2)) <|
 (gdE (EC.isL ec_9 (EC.encL ec_9 (r0).1)) <|
 (Option.bind (classify_Forget_s ((r4).1).1 (((r4).1).2).1 (EC.decL ec_74 (EC.encL ec_74 (((r4).1).2).2)) (EC.decL ec_9 (EC.encL ec_9 (r0).1)) x) fun r6 =>
 (gdE (EC.isL ec_74 (EC.encL ec_74 (((r6).1).2).2)) <|
 (gdE (EC.isL ec_9 (EC.encL ec_9 (r2).1)) <|
 (Option.bind (classify_Score_s ((r6).1).1 (((r6).1).2).1 (EC.decL ec_74 (EC.encL ec_74 (((r6).1).2).2)) (EC.decL ec_9 (EC.encL ec_9 (r2).1))) fun r7 =>
 (gdE (EC.isL ec_74 (EC.encL ec_74 (((r5).1).2).2)) <|
 (gdE (EC.isL ec_9 (EC.encL ec_9 (r2).1)) <|
 (Option.bind (classify_Score_s ((r5).1).1 (((r5).1).2).1 (EC.decL ec_74 (EC.encL ec_74 (((r5).1).2).2)) (EC.decL ec_9 (EC.encL ec_9 (r2).1))) fun r8 =>
 (brE ((((r6).2).1 == 0) == true)
 (brE ((((r7).2).1 == 0) == true)
 (brE ((((r8).2).1 == 0) == true)
 (brE (((r7).1 == (r8).1) == true)
 (gdE (EC.isL ec_74 (EC.encL ec_74 (((r6).1).2).2)) <|
 (gdE (EC.isL ec_74 (EC.encL ec_74 (((r5).1).2).2)) <|
 (Option.bind (posthouseref5_SameWords_s ((r6).1).1 (((r6).1).2).1 (EC.decL ec_74 (EC.encL ec_74 (((r6).1).2).2)) ((r5).1).1 (((r5).1).2).1 (EC.decL ec_74 (EC.encL ec_74 (((r5).1).2).2))) fun r9 =>
 (brE (r9 == true)
 (some true)
 (some false)))))
 (some false))
 (some false))
 (some false))
 (some false))))))))))))
 (some true))
 (some true))))))))))))
 (some true))
 (some true)))))
theorem posthousetop_TopForgottenMessagesDoNotCount_eq {w_Good : Int} {w_Junk : Int} {w_Tokens : (List S74)} {a : ByteArray} {b : ByteArray} {x : Bool} {y : Bool} {text : ByteArray} {r : Bool} (h : posthousetop_TopForgottenMessagesDoNotCount_t w_Good w_Junk w_Tokens a b x y text = some r) : posthousetop_TopForgottenMessagesDoNotCount_s w_Good w_Junk w_Tokens a b x y text = some r :=
  fS_tree (es := tabt) (hs := htab_slices_rotateCmpFunc_h5) [] Tryz.func3 rfl (by kernel_rfl) rfl (by kernel_rfl) (by kernel_rfl) trivial trivial (by kernel_rfl) h
end
end Go.Proofs.YtomnbknaanlmaaaGreatDoor
namespace Go.Proofs.YtomnbknaanlmaaaGreatDoor
open Go.RowKit
theorem prod_bd {a b A B : Int} (h1 : 0 ≤ a) (h2 : a ≤ A) (h3 : 0 ≤ b) (h4 : b ≤ B) : 0 ≤ a * b ∧ a * b ≤ A * B := ⟨Int.mul_nonneg h1 h3, Int.mul_le_mul h2 h4 h3 (by omega)⟩
theorem den_ne {G J g j : Int} (hG : 0 ≤ G ∧ G ≤ 1000000) (hJ : 0 ≤ J ∧ J ≤ 1000000) (hg : 0 ≤ g ∧ g ≤ G) (hj : 0 ≤ j ∧ j ≤ J) (hn : g + j ≠ 0) :
    IntKind.i64.wrap (IntKind.i64.wrap (j * IntKind.i64.wrap (G + 1)) + IntKind.i64.wrap (g * IntKind.i64.wrap (J + 1))) ≠ 0 := by
  rw [wr_in (n := G + 1) (by omega), wr_in (n := J + 1) (by omega)]
  obtain ⟨a1, a2⟩ := prod_bd (a := j) (A := 1000000) (b := G + 1) (B := 1000001) hj.1 (by omega) (by omega) (by omega)
  obtain ⟨b1, b2⟩ := prod_bd (a := g) (A := 1000000) (b := J + 1) (B := 1000001) hg.1 (by omega) (by omega) (by omega)
  have h : 1 ≤ j * (G + 1) ∨ 1 ≤ g * (J + 1) := by
    rcases Int.lt_or_le 0 j with h | h
    · exact .inl (by have := Int.mul_le_mul (a := 1) (b := 1) (c := j) (d := G + 1) (by omega) (by omega) (by omega) (by omega); omega)
    · exact .inr (by have := Int.mul_le_mul (a := 1) (b := 1) (c := g) (d := J + 1) (by omega) (by omega) (by omega) (by omega); omega)
  generalize j * (G + 1) = u at *
  generalize g * (J + 1) = v at *
  rw [wr_in (n := u) (by omega), wr_in (n := v) (by omega), wr_in (by omega)]
  omega
theorem take_enc (X : List Int) (n : Nat) : List.take n (EC.encL ec_3 X) = EC.encL ec_3 (X.take n) := by simp [EC.encL, List.map_take]
theorem sc6 (G J : Int) (T : List S74) (K : List ByteArray) (p q : Int) (hv : VOk G J T) (hK : K.length ≤ 1000) : ∀ (m k : Nat) (L : List Int), k + m = K.length → L.length ≤ k →
    Ok (classify_Score_l6 L.length K (K.length : Int) (k : Int) G J T p q L) fun r => r.1.2.2.1 = r.2.2.2.length ∧ r.2.2.2.length ≤ 1000 := by
  intro m
  induction m with
  | zero =>
    intro k L hk hL
    refine .via classify_Score_l6_eq ?_
    unfold classify_Score_l6_t
    simp only [EC.decL_encL, EC.isL_encL, EC.encL_length, isE_74, at_74_1, at_74_2, isE_9, at_9_0, all_3, apd_3]
    exact ok_brD (fun h => absurd h (by omega)) fun _ => ok_gd rfl (ok_gd rfl (ok_gd rfl (ok_some ⟨rfl, by show L.length ≤ 1000; omega⟩)))
  | succ m ih =>
    intro k L hk hL
    have hlt : k < K.length := by omega
    have e2 : IntKind.i64.wrap ((k : Int) + 1) = ((k + 1 : Nat) : Int) := wr_nat hlt (by omega)
    have hg : ∀ d, K.getD k d = K[k] := fun d => getD_in hlt
    have hT := hv.len
    refine .via classify_Score_l6_eq ?_
    unfold classify_Score_l6_t
    simp only [EC.decL_encL, EC.isL_encL, EC.encL_length, isE_74, at_74_1, at_74_2, isE_9, at_9_0, all_3, apd_3, Int.toNat_natCast, hg, e2]
    refine ok_brD (fun h => ?_) fun h => absurd h (by omega)
    refine ok_gd (by simp) (ok_gd (by simp [hlt]) (ok_gd rfl (ok_at (find_s hv.srt (by omega) K[k]) ?_)))
    simp only [Int.toNat_natCast]
    refine ok_br (fun h1 => ?_) fun _ => ok_gd rfl (ok_gd rfl (ok_gd rfl (ih (k + 1) L (by omega) (by omega))))
    obtain ⟨hM, _⟩ := atB_get h1
    have hb := hv.bd.all _ (List.getElem_mem hM)
    have hden := den_ne hv.g hv.j ⟨hb.1, hb.2.1⟩ ⟨hb.2.2.1, hb.2.2.2.1⟩ hb.2.2.2.2
    refine ok_gd (by simp) (ok_gd (by simp; omega) (ok_gd (by simp) (ok_gd (by simp; omega) ?_)))
    simp only [getD_in hM]
    refine ok_br (fun h0 => absurd (eqb_t h0) hden) fun _ => ?_
    generalize IntKind.i64.wrap (Int.tdiv _ _) = V
    have hl : (L ++ [V]).length = L.length + 1 := by simp
    have hi := ih (k + 1) (L ++ [V]) (by omega) (by rw [hl]; omega)
    rw [hl] at hi
    simp only [List.length_singleton]
    exact ok_gd (by simp; omega) (ok_gd rfl (ok_gd rfl (ok_gd rfl hi)))
theorem sc19 (p q : Int) (R : List Int) : ∀ (m k : Nat) (sum : Int), k + m = R.length → R.length ≤ 1000 → Ok (classify_Score_l19 R sum R (R.length : Int) (k : Int) p q) fun r => r.1.2.1 = R := by
  intro m
  induction m with
  | zero =>
    intro k sum hk hL
    refine .via classify_Score_l19_eq ?_
    unfold classify_Score_l19_t
    simp only [EC.decL_encL, EC.isL_encL, EC.encL_length, isE_3, at_3_0]
    exact ok_brD (fun h => absurd h (by omega)) fun _ => ok_gd rfl (ok_gd rfl (ok_some rfl))
  | succ m ih =>
    intro k sum hk hL
    have hlt : k < R.length := by omega
    have e2 : IntKind.i64.wrap ((k : Int) + 1) = ((k + 1 : Nat) : Int) := wr_nat hlt (by omega)
    refine .via classify_Score_l19_eq ?_
    unfold classify_Score_l19_t
    simp only [EC.decL_encL, EC.isL_encL, EC.encL_length, isE_3, at_3_0, Int.toNat_natCast, e2]
    exact ok_brD (fun _ => ok_gd (by simp) (ok_gd (by simp [hlt]) (ok_gd rfl (ok_gd rfl (ih (k + 1) _ (by omega) hL))))) fun h => absurd h (by omega)
theorem score_s {G J : Int} {T : List S74} {K : List ByteArray} (hv : VOk G J T) (hk : KOk K) : ∃ n, classify_Score_s G J T K = some (n, (0, 0)) := by
  suffices h : Ok (classify_Score_s G J T K) fun r => r.2 = (0, 0) by
    obtain ⟨⟨n, f⟩, e, h⟩ := h
    exact ⟨n, by rw [e, show f = (0, 0) from h]⟩
  refine .via classify_Score_eq ?_
  unfold classify_Score_t
  simp only [EC.decL_encL, EC.isL_encL, EC.encL_length, all_3]
  refine ok_gd rfl (ok_gd rfl (ok_bind (common_s G J T K) fun r0 h0 => ok_at (failed_s _ _) (ok_br (fun h => ?_) fun _ => ok_gd rfl (ok_gd rfl ?_))))
  · rw [h0.2 ⟨hv, hk⟩] at h; simp at h
  · have h6 := sc6 G J T K 0 0 hv hk.len K.length 0 [] (by omega) (by simp)
    rw [Int.natCast_zero] at h6
    refine ok_bind h6 fun r2 h2 => ?_
    obtain ⟨e1, e2⟩ := h2
    generalize r2.2.2.2 = L at *
    rw [e1]
    refine ok_br (fun _ => ok_at none_s (ok_some rfl)) fun hne => ok_gd rfl ?_
    have hne : (L.length : Int) ≠ 0 := eqb_f hne
    refine ok_bind (sorts L (by omega)) fun r3 h3 => ?_
    generalize r3.2.2 = X at *
    have em : (ite (false = true) (ite ((L.length : Int) < (15 : Int)) (15 : Int) (L.length : Int)) (ite ((15 : Int) < (L.length : Int)) (15 : Int) (L.length : Int))) = ((min L.length 15 : Nat) : Int) := by
      rw [if_neg (by decide)]
      split <;> omega
    simp only [em, Int.toNat_natCast, Nat.sub_zero, List.drop_zero, take_enc, EC.decL_encL, EC.isL_encL, EC.encL_length]
    have hmn : (X.take (min L.length 15)).length = min L.length 15 := by rw [List.length_take]; omega
    refine ok_gd (by simp; omega) (ok_gd rfl (ok_gd rfl (ok_gd rfl ?_)))
    have h19 := sc19 r2.2.2.1.1 r2.2.2.1.2 (X.take (min L.length 15)) _ 0 0 (Nat.zero_add _) (by omega)
    rw [Int.natCast_zero] at h19
    refine ok_bind h19 fun r4 h4 => ?_
    rw [h4]
    refine ok_br (fun h => ?_) fun _ => ok_at none_s (ok_some rfl)
    have := eqb_t h
    omega
end Go.Proofs.YtomnbknaanlmaaaGreatDoor
