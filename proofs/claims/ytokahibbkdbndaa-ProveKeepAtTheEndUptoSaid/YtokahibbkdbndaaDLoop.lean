/- Loops of the machine. -/
import Derived.Test.YtokahibbkdbndaaDCall
namespace Go.Proofs.Ytokahibbkdbndaa
open Go.RowKit

/-- a table of slots -/
def tb : List (Nat × V) → Nat → V
  | [], _ => .any
  | (j, v) :: l, i => if i = j then v else tb l i
/-- a state by tables -/
def mkS (t : List (Nat × V)) (h : List (Option B)) (sh : List Bool) (og : List Nat) : St := { t := tb t, h := fun j => (h[j]?).getD none, sh := fun j => (sh[j]?).getD false, nx := h.length, lr := fun _ => [], lw := fun _ => [], og := og }
def canT (live : List Nat) (s : St) (r : Nat → Option Nat) : List (Nat × V) := live.map fun i => (i, aggO r (nilA (s.nx + 200 * i) (s.t i)))
def canL (live : List Nat) (s : St) : List Nat := reach (nilH s.nx s.h) ((live.map fun i => nilA (s.nx + 200 * i) (s.t i)) ++ s.og.map fun id => .ptr id 0)
def canO (s : St) (r : Nat → Option Nat) : List Nat := s.og.map fun id => (r id).getD 0
theorem tb_map (g : Nat → V) : ∀ (l : List Nat) (i : Nat), tb (l.map fun i => (i, g i)) i = if i ∈ l then g i else .any
  | [], i => by simp [tb]
  | j :: l, i => by
    simp only [List.map_cons, tb, tb_map g l i, List.mem_cons]
    by_cases h : i = j
    · subst h; simp
    · simp [h]
theorem canon_mk (live : List Nat) (s : St) : canon live s = mkS (canT live s (fun id => pos id (canL live s))) ((canL live s).map fun id => (nilH s.nx s.h id).map (B.renO (fun id => pos id (canL live s)))) ((canL live s).map (nilSh s.nx s.sh)) (canO s (fun id => pos id (canL live s))) := by
  unfold canon mkS
  simp only
  congr 1
  · funext i
    rw [canT, tb_map]
    rfl
  · funext j
    rw [List.getElem?_map]
    show (((canL live s)[j]?).bind (nilH s.nx s.h)).map _ = _
    cases (canL live s)[j]? <;> rfl
  · funext j
    rw [List.getElem?_map]
    rfl
  · simp [canL]
end Go.Proofs.Ytokahibbkdbndaa
