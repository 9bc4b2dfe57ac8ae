/- For every list of actions, ApplyFilesOnce returns true and leaves its argument alone. -/
import Derived.Test.YtgmjhnijnpfkgaaOpenActs
namespace Go.Proofs.Ytgmjhnijnpfkgaa
open Go.ChangeShapes Go.WideShapes Go.ChangeAt Go.RowKit Go.Deep

/- the plain law -/
theorem hasB_iff {l : List ByteArray} {s : ByteArray} : hasB l s = true ↔ ∃ t ∈ l, t.toList = s.toList := by
  induction l with
  | nil => simp [hasB]
  | cons t l ih =>
    unfold hasB
    by_cases h : (t.toList == s.toList) = true
    · rw [if_pos h]; simp at h; simp [h]
    · rw [if_neg h, ih]; simp at h; simp [h]
/-- no text occurs twice -/
def Once (l : List ByteArray) : Prop := ∀ i t, l[i]? = some t → hasB (l.take i) t = false
theorem once_added {l : List ByteArray} {s : ByteArray} (h : Once l) : Once (added l s) := by
  cases hx : hasB l s with
  | true => rw [added_pos hx]; exact h
  | false =>
    rw [added_neg hx]
    intro i t hi
    rcases Nat.lt_or_ge i l.length with hl | hl
    · rw [List.getElem?_append_left hl] at hi
      rw [List.take_append_of_le_length (by omega)]
      exact h i t hi
    · rw [List.getElem?_append_right hl] at hi
      have h0 : i - l.length = 0 := by
        rcases Nat.eq_zero_or_pos (i - l.length) with h0 | h0
        · exact h0
        · rw [List.getElem?_eq_none (by simp; omega)] at hi; cases hi
      rw [h0] at hi
      simp at hi
      subst hi
      have : i = l.length := by omega
      subst this
      simp [hx]
theorem has_added (l : List ByteArray) (s : ByteArray) : hasB (added l s) s = true := by
  cases hx : hasB l s with
  | true => rw [added_pos hx]; exact hx
  | false => rw [added_neg hx, hasB_iff]; exact ⟨s, by simp, rfl⟩
theorem has_kept {l : List ByteArray} {s t : ByteArray} (h : hasB l t = true) : hasB (added l s) t = true := by
  cases hx : hasB l s with
  | true => rw [added_pos hx]; exact h
  | false =>
    rw [added_neg hx, hasB_iff]
    obtain ⟨u, hu, e⟩ := hasB_iff.1 h
    exact ⟨u, by simp [hu], e⟩
theorem step_X0 (x : Eff) (a : Act) : (x.step a).X 0 = if a.kind = 1 then added (x.X 0) inbox else if a.kind = 2 then added (x.X 0) a.text else x.X 0 := by
  unfold Eff.step
  by_cases h1 : a.kind = 1
  · simp [h1, upd_same]
  by_cases h2 : a.kind = 2
  · simp [h2, upd_same]
  simp only [if_neg h1, if_neg h2]
  split
  · simp [upd]
  split
  · simp [upd]
  split
  · simp [upd]
  split <;> rfl
theorem fold_once : ∀ (l : List Act) (x : Eff), Once (x.X 0) → Once ((l.foldl Eff.step x).X 0)
  | [], _, h => h
  | a :: l, x, h => by
    refine fold_once l (x.step a) ?_
    rw [step_X0]
    split
    · exact once_added h
    split
    · exact once_added h
    · exact h
theorem fold_keeps : ∀ (l : List Act) (x : Eff) (t : ByteArray), hasB (x.X 0) t = true → hasB ((l.foldl Eff.step x).X 0) t = true
  | [], _, _, h => h
  | a :: l, x, t, h => by
    refine fold_keeps l (x.step a) t ?_
    rw [step_X0]
    split
    · exact has_kept h
    split
    · exact has_kept h
    · exact h
theorem fold_files : ∀ (l : List Act) (x : Eff) (a : Act), a ∈ l → a.kind = 2 → hasB ((l.foldl Eff.step x).X 0) a.text = true
  | b :: l, x, a, h, hk => by
    rcases List.mem_cons.1 h with rfl | h
    · refine fold_keeps l _ _ ?_
      rw [step_X0, if_neg (by omega), if_pos hk]
      exact has_added _ _
    · exact fold_files l _ a h hk

theorem eff_ok {l : List Act} (h : (effOf l).2.1 = 0) : effOf l = (l.foldl Eff.step Eff.zero, 0, 0) := by
  unfold effOf at h ⊢
  split
  · rename_i hx; rw [if_pos hx] at h; cases h
  · rename_i hx
    rw [if_neg hx] at h
    split
    · rfl
    · rename_i hy; rw [if_neg hy] at h; exact absurd h hy

theorem Rd.take {w : World} {A : Option Addr} {n c k : Nat} {l : List ByteArray} (h : Rd w 1 A n c (strs l)) (hk : k ≤ n) : Rd w 1 A k c (strs (l.take k)) := by
  have hl := h.scount
  refine ⟨by simp; omega, Nat.le_trans hk h.le, h.2.2.1, fun u hu => h.2.2.2.1 u (by rw [strs, List.map_take] at hu; exact List.mem_of_mem_take hu), fun h0 => ?_⟩
  obtain ⟨b, off, e, hlt, hc⟩ := h.place (by omega)
  refine ⟨b, off, e, hlt, fun j u hu => hc j u ?_⟩
  simp only [strs, List.map_take, List.getElem?_take] at hu
  split at hu
  · exact hu
  · cases hu

def FilesRel (n : Nat) (W : World) (i : Value) (wr : World) : Prop := ∃ k : Nat, k ≤ n ∧ i = .int .i64 k ∧ Bel W wr

theorem has' (A : Option Addr) (n c : Nat) (l : List ByteArray) (s : ByteArray) (w : World) (b : Bool) (h : Rd w 1 A n c (strs l)) (hb : hasB l s = b) :
    Calls Try.prog 18 #[.slice A n c, .string s] w fun e w' => e = .returned (.bool b) ∧ w' = w := by
  subst hb
  exact (has A n c l s w h).mono fun _ _ ⟨h1, h2⟩ => ⟨h1, h2.symm⟩

set_option maxHeartbeats 400000 in
theorem applyFiles (A : Option Addr) (n c : Nat) (l : List Act) (w : World) (h : Rd w 3 A n c (l.flatMap Act.cells)) :
    Calls Try.prog 5 #[.slice A n c] w fun e w' => e = .returned (.bool true) ∧ Bel w w' := by
  have hn := h.le
  have hm := h.cap
  have H := Lib.hid h
  clear h
  by_cases hz : (effOf l).2.1 = 0
  · have hz' := eff_ok hz
    have P1 := Lib.hid (fold_once l Eff.zero (fun i t h => by simp [Eff.zero] at h))
    have P2 := Lib.hid (fold_files l Eff.zero)
    go_enter Try.func5, Try.ntmps5
    go_wp2_with fail
    refine (effects _ _ _ l _ H.out).mono ?_
    rintro e w1 ⟨R, rfl, hR, hb⟩
    rw [hz'] at hR ⊢
    generalize hx : l.foldl Eff.step Eff.zero = x at *
    clear hz hz' hx
    have HR := Lib.hid hR
    have HB := Lib.hid hb
    clear hR hb
    go_wp2_with fail
    generalize hW1 : (World.alloc (World.alloc w1 _) _) = W1
    have hE1 : Blk W1 w1.heap.size 25 (effVal R x.f) := by rw [← hW1]; exact (Blk.new _ _ _).alloc _
    have hb1 : Bel w1 W1 := by rw [← hW1]; exact ((Bel.refl _).alloc _).alloc _
    obtain ⟨A0, n0, c0, hR0⟩ : ∃ A0 n0 c0, R 0 = (A0, n0, c0) := ⟨_, _, _, rfl⟩
    have HE1 := Lib.hid (show W1.cell? ⟨w1.heap.size, 0, none⟩ = some (.slice A0 n0 c0) from by rw [hE1.cell]; simp [effVal, hR0])
    have hlt1 : w1.heap.size < W1.heap.size := hE1.lt
    have HR0 := Lib.hid (show Rd W1 1 A0 n0 c0 (strs (x.X 0)) from by have := HR.out 0 (by decide); rw [hR0] at this; exact this.bel hb1)
    have H1 := Lib.hid (H.out.bel (HB.out.trans hb1))
    have HBB := Lib.hid (HB.out.trans hb1)
    clear hW1 hE1 hb1 hR0 HR
    have hrn := HR0.out.le
    have hrm := HR0.out.cap
    go_loopw [5] (FilesRel n0 W1) (fun i _ => n0 - (intOf i).toNat)
    case atStart => exact ⟨0, Nat.zero_le _, rfl, Bel.refl _⟩
    case round =>
      obtain ⟨k, hk, rfl, hb⟩ := hrel
      have hce := (hb.cell 0 hlt1).trans HE1.out
      have HBR := Lib.hid hb
      clear hb
      by_cases hlt : k < n0
      · obtain ⟨b, off, t, rfl, hlb, hu, hc⟩ := (HR0.out.bel HBR.out).str hlt
        have HNO := Lib.hid (P1.out k t hu)
        have HT := Lib.hid ((HR0.out.bel HBR.out).take (Nat.le_of_lt hlt))
        have hkc : k ≤ c0 := by omega
        clear hu
        go_wp2
        go_quiet ((go_at_call 18; exact Calls.quiet_of_same (has' _ _ _ _ _ _ false (HT.out.bel ((Bel.refl _).drewN _)) HNO.out)))
        go_wp2
        go_roundw
        case rel => exact ⟨k + 1, hlt, by go_num, HBR.out.drewN _⟩
        case measure => simp [intOf]; omega
      · go_wp2
        have hlr := HBR.out.size
        have HBW := Lib.hid (HBB.out.trans HBR.out)
        have HCE := Lib.hid hce
        have HR1 := Lib.hid (HR0.out.bel HBR.out)
        clear HBR hce HBB HE1 HR0 HB
        go_loopw [6] (FilesRel n wr) (fun i _ => n - (intOf i).toNat)
        case atStart => exact ⟨0, Nat.zero_le _, rfl, Bel.refl _⟩
        case round =>
          obtain ⟨j, hj, rfl, hb⟩ := hrel
          have hce := (hb.cell 0 (by omega)).trans HCE.out
          have HBR := Lib.hid hb
          clear hb
          by_cases hlt : j < n
          · obtain ⟨b, off, a, rfl, hlb, hu, hc⟩ := (H.out.bel (HBW.out.trans HBR.out)).elem (fun _ => rfl) (by decide) hlt
            have hc0 : wr.cell? ⟨b, off + j * 3, none⟩ = some (.int .i64 a.kind) := hc 0 _ rfl
            have hc1 : wr.cell? ⟨b, off + j * 3 + 1, none⟩ = some (.string a.text) := hc 1 _ rfl
            have HU := Lib.hid hu
            clear hc hu
            by_cases hk2 : a.kind = 2
            · have HP := Lib.hid (P2.out a (List.mem_of_getElem? HU.out) hk2)
              have hk2' : (a.kind == 2) = true := by simpa using hk2
              clear hk2
              go_wp2
              go_quiet ((go_at_call 18; exact Calls.quiet_of_same (has' _ _ _ _ _ _ true (HR1.out.bel (HBR.out.drewN _)) HP.out)))
              go_wp2
              go_roundw
              case rel => exact ⟨j + 1, hlt, by go_num, HBR.out.drewN _⟩
              case measure => simp [intOf]; omega
            · have hk2' : (a.kind == 2) = false := by simpa using hk2
              clear hk2
              go_wp2
              go_quiet (fail)
              go_wp2
              go_roundw
              case rel => exact ⟨j + 1, hlt, by go_num, HBR.out.drewN _⟩
              case measure => simp [intOf]; omega
          · go_wp2_with fail
            refine (applied _).mono ?_
            rintro e w4 ⟨rfl, hb4⟩
            have HB4 := Lib.hid hb4
            clear hb4
            go_wp2_with fail
            go_ret
            exact ⟨rfl, (HBW.out.trans HBR.out).trans HB4.out⟩
  · have hz' : ((effOf l).2.1 != 0) = true := by simpa using hz
    go_enter Try.func5, Try.ntmps5
    go_wp2_with fail
    refine (effects _ _ _ l _ H.out).mono ?_
    rintro e w1 ⟨R, rfl, hR, hb⟩
    have HB := Lib.hid hb
    clear hR hb
    go_wp2_with fail
    refine (applied _).mono ?_
    rintro e w4 ⟨rfl, hb4⟩
    have HB4 := Lib.hid hb4
    clear hb4
    go_wp2_with fail
    go_ret
    exact ⟨rfl, ((HB.out.alloc _).alloc _).trans HB4.out⟩

set_option maxRecDepth 100000 in
theorem applyFiles_contract (H : Type) (enc : TypeId × Value → H) (W : World) (base : Nat) (args : Array Value) (ds gs : List (DataW H)) (before : List MemPlace)
    (hval : ∀ (j : Nat) t v, Try.f5.params[j]? = some t → args[j]? = some v → Value.okWide Try.prog W .any base t v)
    (hW : DataW.Whole enc Try.prog Try.f5.params.toList Rows.applyFilesOnceSpec.vars false W args.toList ds gs before) :
    Calls Try.prog 5 args W fun e W' => ∃ v, e = .returned v ∧ Rows.applyFilesOnceSpec.post enc Try.prog Try.f5 false true false false W args v W' := by
  have hW' := hW
  obtain ⟨p, q, hA, hV, _, _, _⟩ := hW
  rw [Try.params5] at hA hval
  obtain ⟨v0, d0, hargs, rfl, h0⟩ := trodAll_one hA
  obtain rfl : args = #[v0] := by cases args; simp_all
  obtain ⟨A, n, c, l, rfl, hrd⟩ := open_acts h0 (okWide_slice Try.underlying22 (hval 0 22 v0 rfl rfl))
  refine (applyFiles A n c l W hrd).mono fun e W' ⟨he, hb⟩ => ?_
  subst he
  exact ⟨_, rfl, law_post (tb := 4) Try_laid (by kernel_rfl) rfl Try.underlying4 rfl rfl hW' hb⟩

set_option maxRecDepth 100000 in
theorem applyFiles_lifted (os : Os) (started : os.Started) (H : Type) (enc : TypeId × Value → H) :
    ReturnsInHanded {} Try.checked os 5 .any (Rows.applyFilesOnceSpec.pre6 enc Try.prog Try.f5 Rows.applyFilesOnceRow.domain false) (Rows.applyFilesOnceSpec.post enc Try.prog Try.f5 false true false false) := by
  refine returnsInHanded_of_change (C := Try.checked) Try_own started (by kernel_rfl) Try.func5
    (ChangeSpec.witness6 (enc := enc) (C := Try.checked) false ⟨#[], #[.slice none 0 0], []⟩ 8 (by kernel_rfl) (by kernel_rfl) (by kernel_rfl) (by kernel_rfl)) ?_
  intro W base args ds gs before hval hW _ _
  exact applyFiles_contract H enc W base args ds gs before hval hW

theorem applyFiles_holds : Rows.ApplyFilesOnceSaid :=
  OpenClaim.holds_of_wide 5 Try.f5 rfl rfl rfl rfl rfl rfl rfl ⟨rfl, rfl, rfl, rfl, rfl⟩ rfl rfl rfl rfl rfl (by kernel_rfl) Try.func5 (by kernel_rfl)
    (of_decide_eq_true (by kernel_rfl)) (by unfold Func.isWrapper; first | (rw [if_pos (by decide +kernel)]; kernel_rfl) | (rw [if_neg (by decide +kernel)]; exact ⟨rfl, rfl⟩))
    (fun os started H enc _ => applyFiles_lifted os started H enc)
end Go.Proofs.Ytgmjhnijnpfkgaa
