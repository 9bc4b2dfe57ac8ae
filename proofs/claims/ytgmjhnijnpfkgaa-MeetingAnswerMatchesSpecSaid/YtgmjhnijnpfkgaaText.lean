/- Lists of texts: slices.Index, slices.Contains, Has, SameTexts, In, At, Fault, None, Failed. -/
import Derived.Test.YtgmjhnijnpfkgaaRows
import Derived.Test.YtgmjhnijnpfkgaaBase
namespace Go.Proofs.Ytgmjhnijnpfkgaa
open Go.RowKit

theorem flat_get {α : Type} (f : α → List Value) (k : Nat) (hk : ∀ a, (f a).length = k) : ∀ (l : List α) (i j : Nat) (a : α), l[i]? = some a → j < k → (l.flatMap f)[i * k + j]? = (f a)[j]?
  | [], i, j, a, h, _ => by simp at h
  | x :: l, 0, j, a, h, hj => by
    simp at h; subst h
    simp only [List.flatMap_cons, Nat.zero_mul, Nat.zero_add]
    rw [List.getElem?_append_left (by rw [hk]; exact hj)]
  | x :: l, i + 1, j, a, h, hj => by
    simp at h
    simp only [List.flatMap_cons]
    rw [List.getElem?_append_right (by rw [hk, Nat.add_mul]; omega), hk]
    have e : (i + 1) * k + j - k = i * k + j := by rw [Nat.add_mul]; omega
    rw [e]
    exact flat_get f k hk l i j a h hj
theorem flat_len {α : Type} (f : α → List Value) (k : Nat) (hk : ∀ a, (f a).length = k) (l : List α) : (l.flatMap f).length = l.length * k := by
  induction l with
  | nil => simp
  | cons x l ih => simp only [List.flatMap_cons, List.length_append, ih, hk, List.length_cons, Nat.add_mul]; omega

section
variable {α : Type} {f : α → List Value} {w : World} {k n c : Nat} {A : Option Addr} {l : List α}
theorem Rd.count (h : Rd w k A n c (l.flatMap f)) (hk : ∀ a, (f a).length = k) (h0 : 0 < k) : l.length = n := by
  have := h.1
  rw [flat_len f k hk] at this
  exact Nat.eq_of_mul_eq_mul_right h0 this
theorem Rd.elem {i : Nat} (h : Rd w k A n c (l.flatMap f)) (hk : ∀ a, (f a).length = k) (h0 : 0 < k) (hi : i < n) :
    ∃ b off a, A = some ⟨b, off, none⟩ ∧ b < w.heap.size ∧ l[i]? = some a ∧ ∀ j u, (f a)[j]? = some u → w.cell? ⟨b, off + (i * k + j), none⟩ = some u := by
  have hn := h.count hk h0
  obtain ⟨b, off, e, hlt, hc⟩ := h.place (Nat.mul_pos (by omega) h0)
  have hl : l[i]? = some (l[i]'(by omega)) := List.getElem?_eq_getElem (by omega)
  refine ⟨b, off, _, e, hlt, hl, fun j u hu => hc _ u ?_⟩
  have hj : j < k := by
    rw [← hk (l[i]'(by omega))]
    rcases Nat.lt_or_ge j (f (l[i]'(by omega))).length with h | h
    · exact h
    · rw [List.getElem?_eq_none h] at hu; cases hu
  rw [flat_get f k hk l i j _ hl hj, hu]
end

/-- a list of texts as cells -/
abbrev strs (l : List ByteArray) : List Value := l.map Value.string
theorem Rd.scount {w : World} {A : Option Addr} {n c : Nat} {l : List ByteArray} (h : Rd w 1 A n c (strs l)) : l.length = n := by have := h.1; simpa using this
theorem Rd.str {w : World} {A : Option Addr} {n c : Nat} {l : List ByteArray} {k : Nat} (h : Rd w 1 A n c (strs l)) (hk : k < n) :
    ∃ b off t, A = some ⟨b, off, none⟩ ∧ b < w.heap.size ∧ l[k]? = some t ∧ w.cell? ⟨b, off + k, none⟩ = some (.string t) := by
  obtain ⟨b, off, u, e, hb, hu, hc⟩ := h.at_ (j := k) (by omega)
  rw [List.getElem?_map] at hu
  cases hl : l[k]? with
  | none => rw [hl] at hu; cases hu
  | some t => rw [hl] at hu; injection hu with hu; subst hu; exact ⟨b, off, t, e, hb, rfl, hc⟩

theorem drop_at {α : Type} {l : List α} {k : Nat} {t : α} (hu : l[k]? = some t) : l.drop k = t :: l.drop (k + 1) := by
  have hlt : k < l.length := by
    rcases Nat.lt_or_ge k l.length with h | h
    · exact h
    · rw [List.getElem?_eq_none h] at hu; cases hu
  rw [List.drop_eq_getElem_cons hlt]
  congr 1
  rw [List.getElem?_eq_getElem hlt] at hu
  injection hu

theorem ret_int {k : IntKind} {a b : Int} (h : a = b) : Ending.returned (.int k a) = .returned (.int k b) := by rw [h]
theorem ret_bool {a b : Bool} (h : a = b) : Ending.returned (.bool a) = .returned (.bool b) := by rw [h]

/-- the position of a text in a list, counted from k on; -1: it is not there -/
def idxFrom (k : Nat) : List ByteArray → ByteArray → Int
  | [], _ => -1
  | t :: l, s => if s.toList == t.toList then (k : Int) else idxFrom (k + 1) l s

def SidxRel (n : Nat) (l : List ByteArray) (s : ByteArray) (i : Value) : Prop := ∃ k : Nat, k ≤ n ∧ i = .int .i64 k ∧ idxFrom 0 l s = idxFrom k (l.drop k) s

set_option maxHeartbeats 400000 in
theorem sidx (A : Option Addr) (n c : Nat) (l : List ByteArray) (s : ByteArray) (w : World) (h : Rd w 1 A n c (strs l)) :
    Calls Try.prog 76 #[.slice A n c, .string s] w fun e w' => e = .returned (.int .i64 (idxFrom 0 l s)) ∧ w = w' := by
  have hn := h.le
  have hm := h.cap
  have hll := h.scount
  have H := Lib.hid h
  have HL := Lib.hid hll
  clear h hll
  go_enter Try.func76, Try.ntmps76
  go_wp2
  go_loop [8] (SidxRel n l s) (fun i => n - (intOf i).toNat)
  case atStart => exact ⟨0, Nat.zero_le _, rfl, rfl⟩
  case round =>
    obtain ⟨k, hk, rfl, hf⟩ := hrel
    have HF := Lib.hid hf
    clear hf
    by_cases hlt : k < n
    · obtain ⟨b, off, t, rfl, hb, hu, hc⟩ := H.out.str hlt
      have HU := Lib.hid hu
      clear hu
      go_wp2
      · go_ret
        exact ⟨ret_int (by rw [HF.out, drop_at HU.out, idxFrom, if_pos (by assumption)]), rfl⟩
      · go_round
        case rel => exact ⟨k + 1, hlt, by go_num, by rw [HF.out, drop_at HU.out, idxFrom, if_neg (by simp [*])]⟩
        case measure => simp [intOf]; omega
    · go_wp2
      go_ret
      refine ⟨ret_int ?_, rfl⟩
      rw [HF.out, List.drop_of_length_le (by have := HL.out; omega)]
      rfl

theorem scont (A : Option Addr) (n c : Nat) (l : List ByteArray) (s : ByteArray) (w : World) (h : Rd w 1 A n c (strs l)) :
    Calls Try.prog 69 #[.slice A n c, .string s] w fun e w' => e = .returned (.bool (decide (0 ≤ idxFrom 0 l s))) ∧ w = w' := by
  have H := Lib.hid h
  clear h
  go_enter Try.func69, Try.ntmps69
  go_wp2_with (go_at_call 76; refine (sidx _ _ _ l s _ H.out).mono ?_; rintro e w' ⟨rfl, rfl⟩)
  go_ret
  exact ⟨rfl, rfl⟩

def hasB : List ByteArray → ByteArray → Bool
  | [], _ => false
  | t :: l, s => if t.toList == s.toList then true else hasB l s
def HasRel (n : Nat) (l : List ByteArray) (s : ByteArray) (i : Value) : Prop := ∃ k : Nat, k ≤ n ∧ i = .int .i64 k ∧ hasB l s = hasB (l.drop k) s
set_option maxHeartbeats 400000 in
theorem has (A : Option Addr) (n c : Nat) (l : List ByteArray) (s : ByteArray) (w : World) (h : Rd w 1 A n c (strs l)) :
    Calls Try.prog 18 #[.slice A n c, .string s] w fun e w' => e = .returned (.bool (hasB l s)) ∧ w = w' := by
  have hn := h.le
  have hm := h.cap
  have hll := h.scount
  have H := Lib.hid h
  have HL := Lib.hid hll
  clear h hll
  go_enter Try.func18, Try.ntmps18
  go_wp2
  go_loop [5] (HasRel n l s) (fun i => n - (intOf i).toNat)
  case atStart => exact ⟨0, Nat.zero_le _, rfl, rfl⟩
  case round =>
    obtain ⟨k, hk, rfl, hf⟩ := hrel
    have HF := Lib.hid hf
    clear hf
    by_cases hlt : k < n
    · obtain ⟨b, off, t, rfl, hb, hu, hc⟩ := H.out.str hlt
      have HU := Lib.hid hu
      clear hu
      go_wp2
      · go_ret
        exact ⟨ret_bool (by rw [HF.out, drop_at HU.out, hasB, if_pos (by assumption)]), rfl⟩
      · go_round
        case rel => exact ⟨k + 1, hlt, by go_num, by rw [HF.out, drop_at HU.out, hasB, if_neg (by simp [*])]⟩
        case measure => simp [intOf]; omega
    · go_wp2
      go_ret
      refine ⟨ret_bool ?_, rfl⟩
      rw [HF.out, List.drop_of_length_le (by have := HL.out; omega)]
      rfl

def sameB : List ByteArray → List ByteArray → Bool
  | [], [] => true
  | s :: l, t :: m => if s.toList == t.toList then sameB l m else false
  | _, _ => false
def SameRel (n : Nat) (l m : List ByteArray) (w : World) (i : Value) (wr : World) : Prop := ∃ k : Nat, k ≤ n ∧ i = .int .i64 k ∧ sameB l m = sameB (l.drop k) (m.drop k) ∧ ∃ q, wr = w.drewN q
theorem sameB_len : ∀ (l m : List ByteArray), l.length ≠ m.length → sameB l m = false
  | [], [], h => absurd rfl h
  | [], _ :: _, _ => rfl
  | _ :: _, [], _ => rfl
  | s :: l, t :: m, h => by
    simp only [sameB]
    split
    · exact sameB_len l m (by simpa using h)
    · rfl
set_option maxHeartbeats 400000 in
theorem sameTexts (A B : Option Addr) (n c n' c' : Nat) (l m : List ByteArray) (w : World) (h : Rd w 1 A n c (strs l)) (h' : Rd w 1 B n' c' (strs m)) :
    Calls Try.prog 37 #[.slice A n c, .slice B n' c'] w fun e w' => e = .returned (.bool (sameB l m)) ∧ ∃ q, w' = w.drewN q := by
  have hn := h.le
  have hm := h.cap
  have hn' := h'.le
  have hm' := h'.cap
  have HL := Lib.hid h.scount
  have HM := Lib.hid h'.scount
  have H := Lib.hid h
  have H' := Lib.hid h'
  clear h h'
  by_cases hnn : n = n'
  · have hb : ((n : Int) != (n' : Int)) = false := by simp [hnn]
    have HB := Lib.hid hnn
    clear hnn
    go_enter Try.func37, Try.ntmps37
    go_wp2
    go_loopw [5] (SameRel n l m w) (fun i _ => n - (intOf i).toNat)
    case atStart => exact ⟨0, Nat.zero_le _, rfl, rfl, 0, rfl⟩
    case round =>
      obtain ⟨k, hk, rfl, hf, q, rfl⟩ := hrel
      have HF := Lib.hid hf
      clear hf
      by_cases hlt : k < n
      · obtain ⟨b, off, s, rfl, hlb, hu, hc⟩ := H.out.str hlt
        obtain ⟨b', off', t, rfl, hlb', hu', hc'⟩ := H'.out.str (k := k) (by have := HB.out; omega)
        have hlt' : k < n' := by have := HB.out; omega
        have HU := Lib.hid hu
        have HU' := Lib.hid hu'
        clear hu hu'
        go_wp2
        go_quiet (fail)
        go_wp2
        · go_ret
          exact ⟨ret_bool (by rw [HF.out, drop_at HU.out, drop_at HU'.out, sameB, if_neg (by simp_all)]), _, World.drewN_drewN _ _ _⟩
        · go_roundw
          case rel => exact ⟨k + 1, hlt, by go_num, by rw [HF.out, drop_at HU.out, drop_at HU'.out, sameB, if_pos (by simp_all)], _, rfl⟩
          case measure => simp [intOf]; omega
      · go_wp2
        go_ret
        refine ⟨ret_bool ?_, q, rfl⟩
        rw [HF.out, List.drop_of_length_le (by have := HL.out; omega), List.drop_of_length_le (by have := HM.out; have := HB.out; omega)]
        rfl
  · have hb : ((n : Int) != (n' : Int)) = true := by simpa using (by omega : ¬ (n : Int) = (n' : Int))
    go_enter Try.func37, Try.ntmps37
    go_wp2
    go_ret
    exact ⟨ret_bool (sameB_len l m (by rw [HL.out, HM.out]; exact hnn)).symm, 0, rfl⟩

theorem in_ (a lo hi : Int) (w : World) : Calls Try.prog 26 #[.int .i64 a, .int .i64 lo, .int .i64 hi] w fun e w' => e = .returned (.bool (decide (lo ≤ a ∧ a ≤ hi))) ∧ w = w' := by
  by_cases h1 : lo ≤ a
  · go_enter Try.func26, Try.ntmps26
    go_wp2
    go_ret
    exact ⟨ret_bool (by simp [h1]), rfl⟩
  · have h2 : decide (lo ≤ a) = false := by simpa using h1
    go_enter Try.func26, Try.ntmps26
    go_wp2
    go_ret
    exact ⟨ret_bool (by simp), rfl⟩
theorem at_ (a b : Int) (w : World) : Calls Try.prog 25 #[.int .i64 a, .int .i64 b] w fun e w' => e = .returned (.agg #[.int .i64 a, .int .i64 b]) ∧ w.alloc (.cells #[.int .i64 a, .int .i64 b] 27) = w' := by
  go_enter Try.func25, Try.ntmps25
  go_wp2
  exact bodyPost_ret (v := .agg #[.int .i64 a, .int .i64 b]) (by simp [results, Try.results25, go_sem]) rfl ⟨rfl, rfl⟩
theorem fault (a b : Int) (w : World) : Calls Try.prog 40 #[.int .i64 a, .int .i64 b] w fun e w' => e = .returned (.agg #[.int .i64 a, .int .i64 b]) ∧ w.alloc (.cells #[.int .i64 a, .int .i64 b] 27) = w' := by
  go_enter Try.func40, Try.ntmps40
  go_wp2
  exact bodyPost_ret (v := .agg #[.int .i64 a, .int .i64 b]) (by simp [results, Try.results40, go_sem]) rfl ⟨rfl, rfl⟩
theorem none_ (w : World) : Calls Try.prog 42 #[] w fun e w' => e = .returned (.agg #[.int .i64 0, .int .i64 0]) ∧ w.alloc (.cells #[.int .i64 0, .int .i64 0] 27) = w' := by
  go_enter Try.func42, Try.ntmps42
  go_wp2
  exact bodyPost_ret (v := .agg #[.int .i64 0, .int .i64 0]) (by simp [results, Try.results42, go_sem]) rfl ⟨rfl, rfl⟩
theorem failed (a b : Int) (w : World) : Calls Try.prog 44 #[.agg #[.int .i64 a, .int .i64 b]] w fun e w' => e = .returned (.bool (a != 0)) ∧ w.alloc (.cells #[.int .i64 a, .int .i64 b] 27) = w' := by
  go_enter Try.func44, Try.ntmps44
  go_wp2
  go_ret
  exact ⟨rfl, rfl⟩
end Go.Proofs.Ytgmjhnijnpfkgaa
