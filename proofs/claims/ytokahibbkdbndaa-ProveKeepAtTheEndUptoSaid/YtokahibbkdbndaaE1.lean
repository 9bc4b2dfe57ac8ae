/- The machine in continuation style: operations on values. -/
import Derived.Test.YtokahibbkdbndaaE
namespace Go.Proofs.Ytokahibbkdbndaa
open Go.RowKit

section
variable (P : Program) {β : Type}

/-- equality as one Bool -/
def eqE : Nat → TypeId → V → V → Option Bool
  | 0, _, _, _ => none
  | d + 1, t, x, y =>
    match P.underlying t, x, y with
    | some (.struct fs), .agg xs, .agg ys =>
      if P.stoodInHeld t || P.eqGuardType P.depth t || fs.toList.any (fun f => f.name == "_") then none
      else fs.toList.foldr (fun f r => (partV P f.type xs f.offset).bind fun a => (partV P f.type ys f.offset).bind fun b => (eqE d f.type a b).bind fun q => r.map fun r => q && r) (some true)
    | _, _, _ => eqV P (d + 1) t x y
theorem eqE_ok : ∀ (d : Nat) (t : TypeId) (x y : V) (q : Bool), eqE P d t x y = some q → eqV P d t x y = some q
  | 0, _, _, _, _, h => by simp [eqE] at h
  | d + 1, t, x, y, q, h => by
    unfold eqE at h
    split at h
    · rename_i fs xs ys ht
      unfold eqV
      rw [ht]
      simp only
      split at h
      · cases h
      · rename_i hn
        rw [if_neg hn]
        clear hn ht
        generalize fs.toList = l at h
        induction l generalizing q with
        | nil => exact h
        | cons f l ih =>
          simp only [List.foldr_cons] at h ⊢
          cases h1 : partV P f.type xs f.offset with
          | none => rw [h1] at h; cases h
          | some a =>
            rw [h1] at h
            cases h2 : partV P f.type ys f.offset with
            | none => rw [h2] at h; cases h
            | some b =>
              rw [h2] at h
              simp only [Option.bind_some] at h ⊢
              cases h3 : eqE P d f.type a b with
              | none => rw [h3] at h; cases h
              | some c =>
                rw [h3] at h
                rw [eqE_ok d f.type a b c h3]
                simp only [Option.bind_some] at h ⊢
                obtain ⟨r, hr, hq⟩ := Option.map_eq_some_iff.1 h
                rw [ih r hr]
                cases c <;> simp_all
    · exact h

def binE (op : BinOp) (t : TypeId) (x y : V) (k : V → Option β) : Option β :=
  match x, y with
  | .c (.int a n), .c (.int b m) =>
    match op with
    | .quo => if a = b then brE (m == 0) none (k (.c (.int a (a.wrap (n.tdiv m))))) else none
    | .rem => if a = b then brE (m == 0) none (k (.c (.int a (n.tmod m)))) else none
    | .shl => brE (decide (m < 0)) none (k (.c (.int a (a.wrap (n * 2 ^ (min m.toNat a.bits))))))
    | .shr => brE (decide (m < 0)) none (k (.c (.int a (n.fdiv (2 ^ (min m.toNat a.bits))))))
    | _ => (binV P op t x y).bind k
  | .c (.str a), .c (.str b) =>
    match op with
    | .add => brE (decide (((a.size + b.size : Nat) : Int) > IntKind.i64.max)) none (k (.c (.str (a ++ b))))
    | _ => (binV P op t x y).bind k
  | .agg xs, .agg ys =>
    match op with
    | .eql => (eqE P 9 t (.agg xs) (.agg ys)).bind fun q => k (.c (.bool q))
    | .neq => (eqE P 9 t (.agg xs) (.agg ys)).bind fun q => k (.c (.bool !q))
    | _ => none
  | .c (.sl es), .c .nilS =>
    match P.underlying t with
    | some (.slice _) =>
      match op with
      | .eql => gdE (!es.isEmpty) (k (.c (.bool false)))
      | .neq => gdE (!es.isEmpty) (k (.c (.bool true)))
      | _ => none
    | _ => none
  | x, y => (binV P op t x y).bind k
theorem brE_none {q : Bool} {a : Option β} {r : β} (h : brE q none a = some r) : q = false ∧ a = some r := by cases q <;> simp_all [brE]
theorem binE_ok {op : BinOp} {t : TypeId} {x y : V} {k : V → Option β} {r : β} (h : binE P op t x y k = some r) : (binV P op t x y).bind k = some r := by
  unfold binE at h
  split at h
  · split at h
    · split at h
      · rename_i e
        obtain ⟨h0, h⟩ := brE_none h
        simp only [beq_eq_false_iff_ne] at h0
        subst e
        simp [binV, intOp, h0, h]
      · cases h
    · split at h
      · rename_i e
        obtain ⟨h0, h⟩ := brE_none h
        simp only [beq_eq_false_iff_ne] at h0
        subst e
        simp [binV, intOp, h0, h]
      · cases h
    · obtain ⟨h0, h⟩ := brE_none h
      simp only [decide_eq_false_iff_not] at h0
      simp [binV, shOp, h0, h]
    · obtain ⟨h0, h⟩ := brE_none h
      simp only [decide_eq_false_iff_not] at h0
      simp [binV, shOp, h0, h]
    · exact h
  · split at h
    · obtain ⟨h0, h⟩ := brE_none h
      simp only [decide_eq_false_iff_not] at h0
      simp only [binV, strOp, if_neg h0]
      exact h
    · exact h
  · split at h
    · cases e : eqE P 9 t (.agg _) (.agg _) with
      | none => rw [e] at h; cases h
      | some q => rw [e] at h; simp only [binV, eqE_ok P _ _ _ _ _ e]; exact h
    · cases e : eqE P 9 t (.agg _) (.agg _) with
      | none => rw [e] at h; cases h
      | some q => rw [e] at h; simp only [binV, eqE_ok P _ _ _ _ _ e]; exact h
    · cases h
  · rename_i es
    split at h
    · rename_i ht
      split at h
      · obtain ⟨h0, h⟩ := gdE_some h
        cases es with
        | nil => simp at h0
        | cons e es => simp only [binV, eqV, ht, Option.map_some, Option.bind_some]; exact h
      · obtain ⟨h0, h⟩ := gdE_some h
        cases es with
        | nil => simp at h0
        | cons e es => simp only [binV, eqV, ht, Option.map_some, Option.bind_some]; exact h
      · cases h
    · cases h
  · exact h

/-- a bound of a slice expression -/
def bndE (x : Option V) (d : Nat) (m : Nat) (k : Nat → Option β) : Option β :=
  match x with
  | none => k d
  | some (.c (.int _ i)) => gdE (decide (0 ≤ i) && decide (i ≤ m)) (k i.toNat)
  | _ => none
theorem bndE_ok {x : Option V} {d m : Nat} {k : Nat → Option β} {r : β} (h : bndE x d m k = some r) : ∃ n, bnd x d m = some n ∧ k n = some r := by
  unfold bndE at h
  split at h
  · exact ⟨d, rfl, h⟩
  · obtain ⟨h0, h⟩ := gdE_some h
    simp only [Bool.and_eq_true, decide_eq_true_eq] at h0
    exact ⟨_, if_pos h0, h⟩
  · cases h

/-- the bytes of a text -/
def strIxE (s : ByteArray) (i : Int) (k : V → Option β) : Option β := gdE (decide (0 ≤ i) && decide (i.toNat < s.size)) (k (.c (.int .u8 (s.data.getD i.toNat 0).toNat)))
theorem strIxE_ok {s : ByteArray} {i : Int} {k : V → Option β} {r : β} (h : strIxE s i k = some r) : (strIx s i).bind k = some r := by
  unfold strIxE at h
  obtain ⟨h0, h⟩ := gdE_some h
  simp only [Bool.and_eq_true, decide_eq_true_eq] at h0
  unfold strIx
  rw [if_pos h0.1]
  have e : s[i.toNat]? = some (s.data.getD i.toNat 0) := by
    rw [getElem?_pos s i.toNat h0.2]
    congr 1
    have h1 : i.toNat < s.data.size := h0.2
    simp only [Array.getD, h1, dite_true]
    rfl
  rw [e]
  exact h

/-- an element of a list that is perhaps unknown -/
def atE (e : TypeId) (es : List (List C)) (n : Nat) (k : List C → Option β) : Option β :=
  match shapeT P 5 e with
  | some ks => forceKs ks fun ks => gdE (decide (n < es.length) && isE ks 0 (es.getD n [])) (k (decE ks 0 (es.getD n [])))
  | none => none
theorem atE_ok {e : TypeId} {es : List (List C)} {n : Nat} {k : List C → Option β} {r : β} (h : atE P e es n k = some r) : ∃ el, es[n]? = some el ∧ k el = some r := by
  unfold atE at h
  split at h
  · rw [forceKs_eq] at h
    obtain ⟨h0, h⟩ := gdE_some h
    simp only [Bool.and_eq_true, decide_eq_true_eq] at h0
    rw [decE_eq h0.2] at h
    refine ⟨_, ?_, h⟩
    rw [List.getElem?_eq_getElem h0.1]
    simp [List.getD_eq_getElem?_getD, List.getElem?_eq_getElem h0.1]
  · cases h

def ev0E (r : Operand → V) (o : Op) (k : V → Option β) : Option β :=
  match o with
  | .pick c a b => match r c with | .c (.bool q) => brE q (k (r a)) (k (r b)) | _ => none
  | .binOp op t x y _ => binE P op t (r x) (r y) k
  | .indexAddr t x ix =>
    match P.underlying t, r x, r ix with
    | some (.slice e), .row id n, .c (.int _ i) => (szO P e).bind fun z => gdE (decide (0 ≤ i) && decide (i < n)) (k (.rptr id z i.toNat 0))
    | some (.slice e), .c (.sl es), .c (.int _ i) => (szO P e).bind fun z => gdE (decide (0 ≤ i)) (atE P e es i.toNat fun el => if el.length = z then k (.eptr el 0) else none)
    | some (.array len e), .ptr id off, .c (.int _ i) => (szO P e).bind fun z => gdE (decide (0 ≤ i) && decide (i < len)) (k (.ptr id (off + i.toNat * z)))
    | _, _, _ => none
  | .index t x ix =>
    match P.underlying t, r x, r ix with
    | some .string, .c (.str s), .c (.int _ i) => strIxE s i k
    | _, _, _ => (ev0 P r (.index t x ix)).bind k
  | .slice t x lo hi none =>
    match P.underlying t, r x with
    | some .string, .c (.str s) => bndE (hi.map r) s.size s.size fun h => bndE (lo.map r) 0 h fun l => k (.c (.str (s.extract l h)))
    | _, _ => none
  | o => (ev0 P r o).bind k
theorem ev0E_ok {r : Operand → V} {o : Op} {k : V → Option β} {x : β} (h : ev0E P r o k = some x) : (ev0 P r o).bind k = some x := by
  unfold ev0E at h
  split at h
  · split at h
    · rename_i q e
      simp only [ev0, e]
      cases q <;> exact h
    · cases h
  · exact binE_ok P h
  · unfold ev0
    split at h
    · rename_i e1 e2 e3
      simp only [e1, e2, e3]
      cases hz : szO P _ with
      | none => rw [hz] at h; cases h
      | some z =>
        rw [hz] at h
        simp only [Option.bind_some] at h ⊢
        obtain ⟨h0, h⟩ := gdE_some h
        simp only [Bool.and_eq_true, decide_eq_true_eq] at h0
        rw [if_pos h0]
        exact h
    · rename_i e1 e2 e3
      simp only [e1, e2, e3]
      cases hz : szO P _ with
      | none => rw [hz] at h; cases h
      | some z =>
        rw [hz] at h
        simp only [Option.bind_some] at h ⊢
        obtain ⟨h0, h⟩ := gdE_some h
        simp only [decide_eq_true_eq] at h0
        rw [if_pos h0]
        obtain ⟨el, h1, h⟩ := atE_ok P h
        rw [h1]
        simp only [Option.bind_some]
        split at h
        · rename_i h2
          rw [if_pos h2]
          exact h
        · cases h
    · rename_i e1 e2 e3
      simp only [e1, e2, e3]
      cases hz : szO P _ with
      | none => rw [hz] at h; cases h
      | some z =>
        rw [hz] at h
        simp only [Option.bind_some] at h ⊢
        obtain ⟨h0, h⟩ := gdE_some h
        simp only [Bool.and_eq_true, decide_eq_true_eq] at h0
        rw [if_pos h0]
        exact h
    · cases h
  · split at h
    · rename_i e1 e2 e3
      unfold ev0
      simp only [e1, e2, e3]
      exact strIxE_ok h
    · exact h
  · split at h
    · rename_i e1 e2
      unfold ev0
      simp only [e1, e2]
      obtain ⟨u, h1, h⟩ := bndE_ok h
      obtain ⟨l, h2, h⟩ := bndE_ok h
      rw [h1]
      simp only [Option.bind_some, h2, Option.map_some]
      exact h
    · cases h
  · exact h
end
end Go.Proofs.Ytokahibbkdbndaa
