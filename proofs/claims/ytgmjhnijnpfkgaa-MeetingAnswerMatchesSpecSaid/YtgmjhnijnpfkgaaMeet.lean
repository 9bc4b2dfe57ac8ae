/- meeting: possible, named, IndexFunc and ContainsFunc over guests. -/
import Derived.Test.YtgmjhnijnpfkgaaText
import Derived.Test.YtgmjhnijnpfkgaaMore
namespace Go.Proofs.Ytgmjhnijnpfkgaa
open Go.RowKit

def timeB (t : Int) : Bool := decide (-68719476736 ≤ t) && decide (t ≤ 68719476736)
def possB (f t : Int) : Bool := decide (f < t) && (timeB f && timeB t)
def namedB (s : ByteArray) : Bool := decide (1 ≤ s.size) && decide (s.size ≤ 4000)

theorem time_ (t : Int) (w : World) : Calls Try.prog 70 #[.int .i64 t] w fun e w' => e = .returned (.bool (timeB t)) ∧ w = w' := by
  by_cases h1 : -68719476736 ≤ t
  · go_enter Try.func70, Try.ntmps70
    go_wp2
    go_ret
    exact ⟨ret_bool (by simp [timeB, h1]), rfl⟩
  · have h2 : decide (-68719476736 ≤ t) = false := by simpa using h1
    go_enter Try.func70, Try.ntmps70
    go_wp2
    go_ret
    exact ⟨ret_bool (by simp [timeB, h2]), rfl⟩

theorem possible (f t : Int) (w : World) : Calls Try.prog 47 #[.agg #[.int .i64 f, .int .i64 t]] w fun e w' => e = .returned (.bool (possB f t)) ∧ w.alloc (.cells #[.int .i64 f, .int .i64 t] 38) = w' := by
  by_cases h1 : f < t
  · have H1 := Lib.hid h1
    have h1' : decide (f < t) = true := by simpa using h1
    cases h2 : timeB f with
    | false =>
      go_enter Try.func47, Try.ntmps47
      go_wp2_with (go_at_call 70; refine (time_ _ _).mono ?_; rintro e w' ⟨rfl, rfl⟩)
      go_ret
      exact ⟨ret_bool (by simp [possB, h2]), rfl⟩
    | true =>
      go_enter Try.func47, Try.ntmps47
      go_wp2_with (go_at_call 70; refine (time_ _ _).mono ?_; rintro e w' ⟨rfl, rfl⟩)
      go_ret
      exact ⟨ret_bool (by simp [possB, h1, h2]), rfl⟩
  · have h1' : decide (f < t) = false := by simpa using h1
    go_enter Try.func47, Try.ntmps47
    go_wp2_with (go_at_call 70; refine (time_ _ _).mono ?_; rintro e w' ⟨rfl, rfl⟩)
    go_ret
    exact ⟨ret_bool (by simp [possB, h1']), rfl⟩

theorem named (s : ByteArray) (w : World) : Calls Try.prog 56 #[.string s] w fun e w' => e = .returned (.bool (namedB s)) ∧ w = w' := by
  by_cases h1 : 1 ≤ s.size
  · have h2 : decide ((1 : Int) ≤ (s.size : Int)) = true := by simp; omega
    go_enter Try.func56, Try.ntmps56
    go_wp2
    go_ret
    refine ⟨ret_bool ?_, rfl⟩
    simp [namedB, h1] <;> omega
  · have h2 : decide ((1 : Int) ≤ (s.size : Int)) = false := by simp; omega
    go_enter Try.func56, Try.ntmps56
    go_wp2
    go_ret
    refine ⟨ret_bool ?_, rfl⟩
    simp [namedB, h1] <;> omega

structure Guest where
  addr : ByteArray
  ans : Int
  of_ : Int
  ot : Int
def Guest.cells (g : Guest) : List Value := [.string g.addr, .int .i64 g.ans, .int .i64 g.of_, .int .i64 g.ot]
/-- the first guest of a kind, counted from k on; -1: there is none -/
def gidx (p : Guest → Bool) (k : Nat) : List Guest → Int
  | [] => -1
  | g :: l => if p g then (k : Int) else gidx p (k + 1) l

def GidxRel (w : World) (p : Guest → Bool) (l : List Guest) (n : Nat) (i : Value) (wr : World) : Prop := ∃ k : Nat, k ≤ n ∧ i = .int .i64 k ∧ Bel w wr ∧ gidx p 0 l = gidx p k (l.drop k)
/-- a function value that tells a kind of guests -/
structure Tells (F : FuncId) (cap : Array Value) (p : Guest → Bool) (w : World) : Prop where
  enter : ∀ args w, (callFunc F args).run Try.prog w = .ok (.enter F args) w
  calls : ∀ g wr, Bel w wr → Calls Try.prog F (#[.agg #[.string g.addr, .int .i64 g.ans, .int .i64 g.of_, .int .i64 g.ot]] ++ cap) wr fun e w' => e = .returned (.bool (p g)) ∧ Bel wr w'

set_option maxHeartbeats 400000 in
theorem idxFunc (F : FuncId) (cap : Array Value) (p : Guest → Bool) (A : Option Addr) (n c : Nat) (l : List Guest) (w : World) (h : Rd w 4 A n c (l.flatMap Guest.cells)) (hp : Tells F cap p w) :
    Calls Try.prog 45 #[.slice A n c, .func (.func F) #[] cap] w fun e w' => e = .returned (.int .i64 (gidx p 0 l)) ∧ Bel w w' := by
  have hn := h.le
  have hm := h.cap
  have HL := Lib.hid (h.count (fun _ => rfl) (by decide))
  have H := Lib.hid h
  have HP := Lib.hid hp
  have hent := hp.enter
  clear h hp
  go_enter Try.func45, Try.ntmps45
  go_wp2
  go_loopw [8] (GidxRel w p l n) (fun i _ => n - (intOf i).toNat)
  case atStart => exact ⟨0, Nat.zero_le _, rfl, Bel.refl _, rfl⟩
  case round =>
    obtain ⟨k, hk, rfl, hb, hf⟩ := hrel
    have HB := Lib.hid hb
    have HF := Lib.hid hf
    clear hb hf
    by_cases hlt : k < n
    · obtain ⟨b, off, g, rfl, hlb, hu, hc⟩ := (H.out.bel HB.out).elem (fun _ => rfl) (by decide) hlt
      have hc0 : wr.cell? ⟨b, off + k * 4, none⟩ = some (.string g.addr) := hc 0 _ rfl
      have hc1 : wr.cell? ⟨b, off + k * 4 + 1, none⟩ = some (.int .i64 g.ans) := hc 1 _ rfl
      have hc2 : wr.cell? ⟨b, off + k * 4 + 2, none⟩ = some (.int .i64 g.of_) := hc 2 _ rfl
      have hc3 : wr.cell? ⟨b, off + k * 4 + 3, none⟩ = some (.int .i64 g.ot) := hc 3 _ rfl
      have HU := Lib.hid hu
      clear hc hu
      go_wp2_with fail
      refine (HP.out.calls g _ HB.out).mono ?_
      rintro e w' ⟨rfl, hb1⟩
      have HB1 := Lib.hid hb1
      clear hb1
      cases hpg : p g with
      | true =>
        have HPG := Lib.hid hpg
        clear hpg
        go_wp2
        go_ret
        exact ⟨ret_int (by rw [HF.out, drop_at HU.out, gidx, if_pos HPG.out]), HB.out.trans HB1.out⟩
      | false =>
        have HPG := Lib.hid hpg
        clear hpg
        go_wp2
        go_roundw
        case rel => exact ⟨k + 1, hlt, by go_num, HB.out.trans HB1.out, by rw [HF.out, drop_at HU.out, gidx, if_neg (by simp [HPG.out])]⟩
        case measure => simp [intOf]; omega
    · go_wp2
      go_ret
      refine ⟨ret_int ?_, HB.out⟩
      rw [HF.out, List.drop_of_length_le (by have := HL.out; omega)]
      rfl

theorem contFunc (F : FuncId) (cap : Array Value) (p : Guest → Bool) (A : Option Addr) (n c : Nat) (l : List Guest) (w : World) (h : Rd w 4 A n c (l.flatMap Guest.cells)) (hp : Tells F cap p w) :
    Calls Try.prog 50 #[.slice A n c, .func (.func F) #[] cap] w fun e w' => e = .returned (.bool (decide (0 ≤ gidx p 0 l))) ∧ Bel w w' := by
  have H := Lib.hid h
  have HP := Lib.hid hp
  clear h hp
  go_enter Try.func50, Try.ntmps50
  go_wp2_with fail
  refine (idxFunc F cap p _ _ _ l _ H.out HP.out).mono ?_
  rintro e w' ⟨rfl, hb⟩
  have HB := Lib.hid hb
  clear hb
  go_wp2
  go_ret
  exact ⟨rfl, HB.out⟩
end Go.Proofs.Ytgmjhnijnpfkgaa
