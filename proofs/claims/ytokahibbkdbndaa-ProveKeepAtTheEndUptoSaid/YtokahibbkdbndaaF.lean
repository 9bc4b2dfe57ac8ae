/- Code over states that are lists of slots and blocks. -/
import Derived.Test.YtokahibbkdbndaaE4
namespace Go.Proofs.Ytokahibbkdbndaa
open Go.RowKit

structure LS where
  t : List (Nat × V)
  h : List (Option B)
  sh : List Bool
  og : List Nat
def LS.st (s : LS) : St := mkS s.t s.h s.sh s.og

def setT (d : Nat) (v : V) : List (Nat × V) → List (Nat × V)
  | [] => []
  | (j, x) :: l => bif j == d then (j, v) :: l else (j, x) :: setT d v l
theorem setT_tb {d : Nat} {v : V} : ∀ (l : List (Nat × V)), tb l d = v → tb (setT d v l) = tb l
  | [], _ => rfl
  | (j, x) :: l, h => by
    unfold setT
    by_cases e : j = d
    · subst e
      simp only [tb, if_true] at h
      subst h
      simp
    · have e' : (j == d) = false := by simpa using e
      simp only [tb, Ne.symm e, if_false] at h
      simp only [e', cond_false]
      funext i
      simp only [tb, setT_tb l h]

section
variable {β : Type}
/-- the state behind a region, as lists -/
def canK (live : List Nat) (s : St) (k : LS → Option β) : Option β :=
  forceNL (canL live s) fun l => forceT (canT live s (fun id => pos id l)) fun t => forceH (l.map fun id => (nilH s.nx s.h id).map (B.renO (fun id => pos id l))) fun h => forceS (l.map (nilSh s.nx s.sh)) fun sh => forceNL (canO s (fun id => pos id l)) fun og => k ⟨t, h, sh, og⟩
theorem canK_ok {live : List Nat} {s : St} {k : LS → Option β} {r : β} (h : canK live s k = some r) : ∃ ls, canon live s = ls.st ∧ k ls = some r := by
  unfold canK at h
  rw [forceNL_eq, forceT_eq, forceH_eq, forceS_eq, forceNL_eq] at h
  exact ⟨⟨_, _, _, _⟩, canon_mk live s, h⟩
end

/-- a tested slot becomes a literal -/
def setL (s : LS) (c : Operand) (q : Bool) : LS := match c with
  | .tmp d => { s with t := setT d (.c (.bool q)) s.t }
  | _ => s
theorem setL_st {s : LS} {c : Operand} {q : Bool} (h : rho s.st.t c = .c (.bool q)) : (setL s c q).st = s.st := by
  cases c with
  | tmp d =>
    have h' : tb s.t d = .c (.bool q) := h
    simp only [setL, LS.st, mkS, setT_tb s.t h']
  | _ => rfl

/-- loops of a piece of code, the outer ones -/
def loopsOf (live : Nat → List Nat) : Code → List Code
  | .loop c => [c]
  | .seq a b => loopsOf live a ++ (match cutL live b with | [] => loopsOf live b | _ => [])
  | .cond _ a b => loopsOf live a ++ loopsOf live b
  | .block _ c => loopsOf live c
  | _ => []
/-- pieces of code that are cut -/
def segsOf (live : Nat → List Nat) : Code → List Code
  | .seq a b => segsOf live a ++ (match cutL live b with | [] => segsOf live b | _ => [b])
  | .cond _ a b => segsOf live a ++ segsOf live b
  | .block _ c => segsOf live c
  | _ => []
def allDraw (P : Program) (io : FuncId → Bool) (live : Nat → List Nat) : Code → Bool
  | .region id ops true => drawOk P io (fun j => live (3000000 + 1000 * id + j)) ops
  | .seq a b => allDraw P io live a && allDraw P io live b
  | .cond _ a b => allDraw P io live a && allDraw P io live b
  | .block _ c => allDraw P io live c
  | _ => true
def en (args : List V) (k : Nat) : List (Nat × V) := match args with
  | [] => []
  | a :: l => (k, a) :: en l (k + 1)
theorem en_tb : ∀ (args : List V) (k i : Nat), tb (en args k) i = if i < k then .any else args.getD (i - k) .any
  | [], k, i => by simp [en, tb]
  | a :: l, k, i => by
    simp only [en, tb, en_tb l (k + 1) i]
    by_cases h1 : i = k
    · subst h1; simp
    · by_cases h2 : i < k
      · simp [h1, h2, show i < k + 1 by omega]
      · have h3 : ¬ i < k + 1 := by omega
        have h4 : i - k = (i - (k + 1)) + 1 := by omega
        simp only [h1, h2, h3, if_false]
        rw [h4, List.getD_cons_succ]
theorem st0_eq (args : List V) : st0 args = LS.st ⟨en args 0, [], [], []⟩ := by
  unfold st0 LS.st mkS
  congr 1
  funext i
  simp [en_tb]

section
variable (P : Program) {β : Type}
def codeL (io : FuncId → Bool) (live : Nat → List Nat) (callE : FuncId → List V → (V × List B → Option β) → Option β) (chE : FuncId → Option (List V → St → (V × St → Option β) → Option β)) (nt : Nat) (loopE segE : Nat → LS → (Nat × LS → Option β) → Option β) : Code → LS → (Nat × LS → Option β) → Option β
  | .skip, s, k => k (0, s)
  | .region id ops true, s, k => forceNL (befL ops.toList []) fun an => runE P ⟨callE, io, chE, lvD io (fun j => live (3000000 + 1000 * id + j)) ops s.h.length, s.h.length + 8 * ops.size⟩ nt ops (fun j => an.getD j 0) s.h.length ops.toList 0 s.st fun s' => canK (live (2 * id + 1)) { s' with nx := s.h.length + 8 * ops.size } fun s' => k (0, s')
  | .region id ops false, s, k => runNE P callE chE (fun j => live (3000000 + 1000 * id + j)) nt ops ops.toList 0 s.h.length s.st fun s' => canK (live (2 * id + 1)) s' fun s' => k (0, s')
  | .seq a b, s, k => codeL io live callE chE nt loopE segE a s fun x => match x with
    | (0, s) => match cutL live b with
      | [] => codeL io live callE chE nt loopE segE b s k
      | _ :: _ => match fstRegion b with | some id => segE id s k | none => none
    | (n + 1, s) => k (n + 1, s)
  | .cond c a b, s, k => match rho s.st.t c with | .c (.bool q) => brE q (codeL io live callE chE nt loopE segE a (setL s c true) k) (codeL io live callE chE nt loopE segE b (setL s c false) k) | _ => none
  | .block id c, s, k => codeL io live callE chE nt loopE segE c s fun x => if x.1 = id + 2 then k (0, x.2) else k x
  | .loop c, s, k => match fstRegion c with | some id => loopE id s k | none => none
  | .exit id, s, k => k (id + 2, s)
  | .ret, s, k => k (1, s)
  | _, _, _ => none

theorem codeL_ok {live : Nat → List Nat} {call : CT} {callE : FuncId → List V → (V × List B → Option β) → Option β} (hc : ∀ f a k r, callE f a k = some r → (call.call f a).bind k = some r) {chE : FuncId → Option (List V → St → (V × St → Option β) → Option β)} (hk : KE call.ch chE)
    {nt : Nat} {again : Code → St → Option (Nat × St)} {loopE segE : Nat → LS → (Nat × LS → Option β) → Option β} :
    ∀ (c : Code), allDraw P call.io live c = true → (∀ L ∈ loopsOf live c, ∀ id, fstRegion L = some id → ∀ s k r, loopE id s k = some r → ∃ n s', stepC P live call nt again (.loop L) s.st = some (n, s'.st) ∧ k (n, s') = some r) →
    (∀ L ∈ segsOf live c, ∀ id, fstRegion L = some id → ∀ s k r, segE id s k = some r → ∃ n s', stepC P live call nt again L (cutS live L s.st) = some (n, s'.st) ∧ k (n, s') = some r) →
    ∀ (s : LS) (k : Nat × LS → Option β) (r : β), codeL P call.io live callE chE nt loopE segE c s k = some r → ∃ n s', stepC P live call nt again c s.st = some (n, s'.st) ∧ k (n, s') = some r := by
  intro c
  induction c with
  | skip => intro _ _ _ s k r h; exact ⟨0, s, rfl, h⟩
  | region id ops dr =>
    intro hd _ _ s k r h
    cases dr with
    | true =>
      rw [stepC_draw hd]
      simp only [codeL, forceNL_eq] at h
      have h1 := runE_ok P hc hk ops.toList 0 _ _ _ rfl h
      rw [Array.length_toList, ← List.range_eq_range'] at h1
      have e : (fun j => (befL ops.toList []).getD j 0) = anOf ops := rfl
      rw [e] at h1
      cases a : runD P ⟨call.call, call.io, call.ch, lvD call.io (fun j => live (3000000 + 1000 * id + j)) ops s.h.length, s.h.length + 8 * ops.size⟩ nt ops (anOf ops) s.h.length (List.range ops.size) s.st with
      | none => rw [a] at h1; cases h1
      | some s1 =>
        rw [a] at h1
        simp only [Option.bind_some] at h1
        obtain ⟨ls, h2, h3⟩ := canK_ok h1
        refine ⟨0, ls, ?_, h3⟩
        show (runD P ⟨call.call, call.io, call.ch, lvD call.io (fun j => live (3000000 + 1000 * id + j)) ops s.h.length, s.h.length + 8 * ops.size⟩ nt ops (anOf ops) s.h.length (List.range ops.size) s.st).map _ = _
        rw [a, ← h2]
        rfl
    | false =>
      rw [stepC_plain]
      simp only [codeL] at h
      have h1 := runNE_ok P hc hk ops.toList _ _ _ _ _ h
      cases a : runN P call.call call.ch (fun j => live (3000000 + 1000 * id + j)) nt ops ops.toList 0 s.h.length s.st with
      | none => rw [a] at h1; cases h1
      | some s1 =>
        rw [a] at h1
        simp only [Option.bind_some] at h1
        obtain ⟨ls, h2, h3⟩ := canK_ok h1
        refine ⟨0, ls, ?_, h3⟩
        show (runN P call.call call.ch (fun j => live (3000000 + 1000 * id + j)) nt ops ops.toList 0 s.h.length s.st).map _ = _
        rw [a, ← h2]
        rfl
  | seq a b iha ihb =>
    intro hd hl hg s k r h
    simp only [allDraw, Bool.and_eq_true] at hd
    simp only [codeL] at h
    obtain ⟨n, s1, h1, h2⟩ := iha hd.1 (fun L hL => hl L (by simp [loopsOf, hL])) (fun L hL => hg L (by simp [segsOf, hL])) _ _ _ h
    rw [stepC_seq, h1]
    simp only [Option.bind_some]
    cases n with
    | zero =>
      simp only [if_true]
      simp only at h2
      split at h2
      · rename_i e
        simp only [cutS, e]
        exact ihb hd.2 (fun L hL => hl L (by simp [loopsOf, e, hL])) (fun L hL => hg L (by simp [segsOf, e, hL])) _ _ _ h2
      · rename_i i l e
        split at h2
        · rename_i id e'
          exact hg b (by simp [segsOf, e]) id e' _ _ _ h2
        · cases h2
    | succ n => exact ⟨n + 1, s1, by simp, h2⟩
  | cond c a b iha ihb =>
    intro hd hl hg s k r h
    simp only [allDraw, Bool.and_eq_true] at hd
    simp only [codeL] at h
    split at h
    · rename_i q e
      rw [stepC_cond e]
      cases q with
      | true =>
        obtain ⟨n, s1, h1, h2⟩ := iha hd.1 (fun L hL => hl L (by simp [loopsOf, hL])) (fun L hL => hg L (by simp [segsOf, hL])) _ _ _ h
        rw [setL_st e] at h1
        exact ⟨n, s1, h1, h2⟩
      | false =>
        obtain ⟨n, s1, h1, h2⟩ := ihb hd.2 (fun L hL => hl L (by simp [loopsOf, hL])) (fun L hL => hg L (by simp [segsOf, hL])) _ _ _ h
        rw [setL_st e] at h1
        exact ⟨n, s1, h1, h2⟩
    · cases h
  | block id c ih =>
    intro hd hl hg s k r h
    simp only [allDraw] at hd
    simp only [codeL] at h
    obtain ⟨n, s1, h1, h2⟩ := ih hd (fun L hL => hl L (by simpa [loopsOf] using hL)) (fun L hL => hg L (by simpa [segsOf] using hL)) _ _ _ h
    rw [stepC_block, h1]
    simp only [Option.bind_some]
    split at h2
    · rename_i h3
      simp only at h3
      exact ⟨0, s1, by simp [h3], h2⟩
    · rename_i h3
      simp only at h3
      exact ⟨n, s1, by simp [h3], h2⟩
  | loop c ih =>
    intro _ hl _ s k r h
    simp only [codeL] at h
    split at h
    · rename_i id e
      exact hl c (by simp [loopsOf]) id e s k r h
    · cases h
  | exit id => intro _ _ _ s k r h; exact ⟨id + 2, s, rfl, h⟩
  | ret => intro _ _ _ s k r h; exact ⟨1, s, rfl, h⟩
  | _ => intro _ _ _ s k r h; simp [codeL] at h
end

/-- the one that there is -/
noncomputable def pick {α : Type} (p : α → Prop) : Option α := open Classical in if h : ∃ a, p a then some h.choose else none
theorem pick_spec {α : Type} {p : α → Prop} {a : α} (h : pick p = some a) : p a := by
  unfold pick at h
  split at h
  · rename_i hx
    injection h with h
    rw [← h]
    exact hx.choose_spec
  · cases h
theorem pick_of {α : Type} {p : α → Prop} {a : α} (h : p a) (hu : ∀ b, p b → b = a) : pick p = some a := by
  unfold pick
  have hx : ∃ a, p a := ⟨a, h⟩
  rw [dif_pos hx, hu _ hx.choose_spec]

section
variable {P : Program} {live : FuncId → Nat → List Nat} {X : FuncId → List V → Option (V × List B)}
variable (P live X) in
/-- a loop from a state at its head -/
noncomputable def loopFrom (f nt : Nat) (c : Code) (s : St) : Option (Nat × St) := (stepC P (live f) (CallT P live X) nt (Exec P live X f nt) c s).bind fun x => if x.1 = 0 then Exec P live X f nt (.loop c) x.2 else some x
variable (live) in
def headOf (f : Nat) (c : Code) : List Nat := ((fstRegion c).map fun id => live f (2 * id)).getD []
theorem stepC_from {f nt : Nat} {c : Code} {s : St} : stepC P (live f) (CallT P live X) nt (Exec P live X f nt) (.loop c) s = loopFrom P live X f nt c (canon (headOf live f c) s) := rfl
end
end Go.Proofs.Ytokahibbkdbndaa
