/- The machine in continuation style: unknown tests become branches, so that the kernel can walk. -/
import Derived.Test.YtokahibbkdbndaaDLoop
namespace Go.Proofs.Ytokahibbkdbndaa
open Go.RowKit

/-- kinds of a cell -/
inductive K1 where
  | int (k : IntKind)
  | bool
  | str
  | sl
def intOf : C → Int
  | .int _ n => n
  | _ => 0
def boolOf : C → Bool
  | .bool b => b
  | _ => false
def strOf : C → ByteArray
  | .str s => s
  | _ => default
def slOf : C → List (List C)
  | .sl es => es
  | _ => []
def decC : K1 → C → C
  | .int k, c => .int k (intOf c)
  | .bool, c => .bool (boolOf c)
  | .str, c => .str (strOf c)
  | .sl, c => .sl (slOf c)
def isK : K1 → C → Bool
  | .int k, .int k' _ => decide (k = k')
  | .bool, .bool _ => true
  | .str, .str _ => true
  | .sl, .sl _ => true
  | _, _ => false
theorem decC_eq {k : K1} {c : C} (h : isK k c = true) : decC k c = c := by
  cases k <;> cases c <;> simp_all [isK, decC, intOf, boolOf, strOf, slOf]
/-- an element, cell by cell -/
def decE : List K1 → Nat → List C → List C
  | [], _, _ => []
  | k :: ks, i, el => decC k (el.getD i .ne) :: decE ks (i + 1) el
def isE : List K1 → Nat → List C → Bool
  | [], i, el => el.length == i
  | k :: ks, i, el => isK k (el.getD i .ne) && isE ks (i + 1) el
theorem decE_drop : ∀ (ks : List K1) (i : Nat) (el : List C), isE ks i el = true → decE ks i el = el.drop i
  | [], i, el, h => by
    simp only [isE, beq_iff_eq] at h
    simp [decE, ← h]
  | k :: ks, i, el, h => by
    simp only [isE, Bool.and_eq_true] at h
    rw [decE, decC_eq h.1, decE_drop ks (i + 1) el h.2]
    have hi : i < el.length := by
      by_cases hi : i < el.length
      · exact hi
      · have := h.1
        rw [List.getD_eq_getElem?_getD, List.getElem?_eq_none (by omega)] at this
        cases k <;> simp [isK] at this
    rw [List.drop_eq_getElem_cons hi]
    simp [List.getD_eq_getElem?_getD, List.getElem?_eq_getElem hi]
theorem decE_eq {ks : List K1} {el : List C} (h : isE ks 0 el = true) : decE ks 0 el = el := by rw [decE_drop ks 0 el h]; rfl
theorem isE_length : ∀ {ks : List K1} {i : Nat} {el : List C}, isE ks i el = true → el.length = i + ks.length
  | [], i, el, h => by simpa [isE] using h
  | k :: ks, i, el, h => by
    simp only [isE, Bool.and_eq_true] at h
    have := isE_length h.2
    simp only [List.length_cons]; omega

section
variable (P : Program)
def shapeT : Nat → TypeId → Option (List K1)
  | 0, _ => none
  | d + 1, t => match P.underlying t with
    | some .bool => some [.bool]
    | some (.int k) => some [.int k]
    | some .string => some [.str]
    | some (.slice _) => some [.sl]
    | some (.struct fs) => fs.toList.foldr (fun f r => (shapeT d f.type).bind fun a => r.map (a ++ ·)) (some [])
    | _ => none
end

section
variable {β : Type}
/-- a test, then on -/
def brE (q : Bool) (a b : Option β) : Option β := match q with | true => a | false => b
def gdE (q : Bool) (a : Option β) : Option β := match q with | true => a | false => none
theorem gdE_some {q : Bool} {a : Option β} {r : β} (h : gdE q a = some r) : q = true ∧ a = some r := by cases q <;> simp_all [gdE]

def forceK (x : K1) (k : K1 → Option β) : Option β := match x with
  | .int a => k (.int a)
  | .bool => k .bool
  | .str => k .str
  | .sl => k .sl
theorem forceK_eq (x : K1) (k : K1 → Option β) : forceK x k = k x := by cases x <;> rfl
def forceKs (l : List K1) (k : List K1 → Option β) : Option β := match l with
  | [] => k []
  | x :: l => forceK x fun x => forceKs l fun l => k (x :: l)
theorem forceKs_eq : ∀ (l : List K1) (k : List K1 → Option β), forceKs l k = k l
  | [], _ => rfl
  | x :: l, k => by rw [forceKs, forceK_eq, forceKs_eq]
/-- values with their constructors in front -/
def forceC (x : C) (k : C → Option β) : Option β := match x with
  | .int a n => k (.int a n)
  | .bool b => k (.bool b)
  | .str s => k (.str s)
  | .sl es => k (.sl es)
  | .nilS => k .nilS
  | .ne => k .ne
  | .zs => k .zs
  | .nilP => k .nilP
  | .nilF => k .nilF
theorem forceC_eq (x : C) (k : C → Option β) : forceC x k = k x := by cases x <;> rfl
def forceCs (l : List C) (k : List C → Option β) : Option β := match l with
  | [] => k []
  | x :: l => forceC x fun x => forceCs l fun l => k (x :: l)
theorem forceCs_eq : ∀ (l : List C) (k : List C → Option β), forceCs l k = k l
  | [], _ => rfl
  | x :: l, k => by rw [forceCs, forceC_eq, forceCs_eq]
def forceN (n : Nat) (k : Nat → Option β) : Option β := k n
/-- a cell of a struct, or a value that is no struct -/
def forceV1 (v : V) (k : V → Option β) : Option β := match v with
  | .any => k .any
  | .c x => forceC x fun x => k (.c x)
  | .agg cs => k (.agg cs)
  | .tup vs => k (.tup vs)
  | .row id n => k (.row id n)
  | .ptr id off => k (.ptr id off)
  | .rptr id a i off => k (.rptr id a i off)
  | .eptr cs off => forceCs cs fun cs => k (.eptr cs off)
  | .fn f caps => k (.fn f caps)
theorem forceV1_eq (v : V) (k : V → Option β) : forceV1 v k = k v := by cases v <;> simp only [forceV1, forceC_eq, forceCs_eq]
def forceL1 (l : List V) (k : List V → Option β) : Option β := match l with
  | [] => k []
  | x :: l => forceV1 x fun x => forceL1 l fun l => k (x :: l)
theorem forceL1_eq : ∀ (l : List V) (k : List V → Option β), forceL1 l k = k l
  | [], _ => rfl
  | x :: l, k => by rw [forceL1, forceV1_eq, forceL1_eq]
def forceV2 (v : V) (k : V → Option β) : Option β := match v with
  | .agg cs => forceL1 cs fun cs => k (.agg cs)
  | .fn f caps => forceL1 caps fun caps => k (.fn f caps)
  | v => forceV1 v k
theorem forceV2_eq (v : V) (k : V → Option β) : forceV2 v k = k v := by cases v <;> simp only [forceV2, forceV1_eq, forceL1_eq]
def forceL2 (l : List V) (k : List V → Option β) : Option β := match l with
  | [] => k []
  | x :: l => forceV2 x fun x => forceL2 l fun l => k (x :: l)
theorem forceL2_eq : ∀ (l : List V) (k : List V → Option β), forceL2 l k = k l
  | [], _ => rfl
  | x :: l, k => by rw [forceL2, forceV2_eq, forceL2_eq]
def forceV (v : V) (k : V → Option β) : Option β := match v with
  | .tup vs => forceL2 vs fun vs => k (.tup vs)
  | v => forceV2 v k
theorem forceV_eq (v : V) (k : V → Option β) : forceV v k = k v := by cases v <;> simp only [forceV, forceV2_eq, forceL2_eq]
end
end Go.Proofs.Ytokahibbkdbndaa
