/- Loops of the machine. -/
import Derived.Test.YtgmjhnijnpfkgaaDCall
namespace Go.Proofs.Ytgmjhnijnpfkgaa
open Go.RowKit

/-- what holds behind a piece of code: at its end, or where it leaves -/
def After (x : Option (Nat × St)) (G : St → Prop) (E : Nat × St → Prop) : Prop := match x with
  | some y => if y.1 = 0 then G y.2 else E y
  | none => False
theorem After_some {y : Nat × St} {G : St → Prop} {E : Nat × St → Prop} : After (some y) G E = if y.1 = 0 then G y.2 else E y := rfl

/-- the state is one at the loop's head again -/
def Nxt {α β : Type} (S : α → St) (μ : α → Nat) (r : α → β) (l : List Nat) (a : α) (s' : St) : Prop := ∃ a', canon l s' = S a' ∧ μ a' < μ a ∧ r a' = r a

section
variable {P : Program} {live : FuncId → Nat → List Nat} {X : FuncId → List V → Option (V × List B)} {f : FuncId} {nt : Nat} {L : Code}

/-- a loop, with what follows it; S: the states at its head -/
theorem loop_bind {α β : Type} {K : Nat × St → Option β} (S : α → St) (μ : α → Nat) (r : α → β) (l : List Nat) (hl : ((fstRegion L).map fun id => live f (2 * id)).getD [] = l)
    (h : ∀ a, After (stepC P (live f) (Call P live X) nt (Exec P live X f nt) L (S a)) (Nxt S μ r l a) (fun x => K x = some (r a))) :
    ∀ a s, canon l s = S a → (stepC P (live f) (Call P live X) nt (Exec P live X f nt) (.loop L) s).bind K = some (r a) := by
  have key : ∀ n a s, μ a < n → canon l s = S a → ∃ x, stepC P (live f) (Call P live X) nt (Exec P live X f nt) (.loop L) s = some x ∧ K x = some (r a) := by
    intro n
    induction n with
    | zero => intro a s hn; omega
    | succ n ih =>
      intro a s hn hs
      have ha := h a
      rw [stepC_loop, hl, hs]
      cases hx : stepC P (live f) (Call P live X) nt (Exec P live X f nt) L (S a) with
      | none => rw [hx] at ha; exact ha.elim
      | some y =>
        rw [hx, After_some] at ha
        simp only [Option.bind_some]
        split at ha
        · rename_i h0
          rw [if_pos h0]
          obtain ⟨a', c1, c2, c3⟩ := ha
          obtain ⟨x, e1, e2⟩ := ih a' y.2 (by omega) c1
          exact ⟨x, Exec_step P live X e1, by rw [e2, c3]⟩
        · rename_i h0
          rw [if_neg h0]
          exact ⟨y, rfl, ha⟩
  intro a s hs
  obtain ⟨x, e1, e2⟩ := key (μ a + 1) a s (by omega) hs
  rw [e1]
  exact e2
end

/-- a table of slots -/
def tb : List (Nat × V) → Nat → V
  | [], _ => .any
  | (j, v) :: l, i => if i = j then v else tb l i
/-- a state by tables -/
def mkS (t : List (Nat × V)) (h : List (Option B)) (sh : List Bool) : St := { t := tb t, h := fun j => (h[j]?).getD none, sh := fun j => (sh[j]?).getD false, nx := h.length, lr := fun _ => none, lw := fun _ => none }
section
variable (t : List (Nat × V)) (h : List (Option B)) (sh : List Bool)
@[simp] theorem mkS_t : (mkS t h sh).t = tb t := rfl
@[simp] theorem mkS_h : (mkS t h sh).h = fun j => (h[j]?).getD none := rfl
@[simp] theorem mkS_sh : (mkS t h sh).sh = fun j => (sh[j]?).getD false := rfl
@[simp] theorem mkS_nx : (mkS t h sh).nx = h.length := rfl
@[simp] theorem mkS_lr : (mkS t h sh).lr = fun _ => none := rfl
@[simp] theorem mkS_lw : (mkS t h sh).lw = fun _ => none := rfl
end
theorem mkS_congr {t t' : List (Nat × V)} {h h' : List (Option B)} {sh sh' : List Bool} (h1 : t = t') (h2 : h = h') (h3 : sh = sh') : mkS t h sh = mkS t' h' sh' := by subst h1 h2 h3; rfl

def canT (live : List Nat) (s : St) (r : Nat → Option Nat) : List (Nat × V) := live.map fun i => (i, aggO r (nilA (s.nx + 200 * i) (s.t i)))
def canL (live : List Nat) (s : St) : List Nat := reach (nilH s.nx s.h) (live.map fun i => nilA (s.nx + 200 * i) (s.t i))
theorem tb_map (g : Nat → V) : ∀ (l : List Nat) (i : Nat), tb (l.map fun i => (i, g i)) i = if i ∈ l then g i else .any
  | [], i => by simp [tb]
  | j :: l, i => by
    simp only [List.map_cons, tb, tb_map g l i, List.mem_cons]
    by_cases h : i = j
    · subst h; simp
    · simp [h]
theorem canon_mk (live : List Nat) (s : St) : canon live s = mkS (canT live s (fun id => pos id (canL live s))) ((canL live s).map fun id => (nilH s.nx s.h id).map (B.renO (fun id => pos id (canL live s)))) ((canL live s).map (nilSh s.nx s.sh)) := by
  unfold canon mkS
  simp only
  congr 1
  · funext i
    rw [canT, tb_map]
    rfl
  · funext j
    rw [List.getElem?_map]
    show (((canL live s)[j]?).bind (nilH s.nx s.h)).map _ = _
    cases (canL live s)[j]? <;> rfl
  · funext j
    rw [List.getElem?_map]
    rfl
  · simp [canL]
end Go.Proofs.Ytgmjhnijnpfkgaa
