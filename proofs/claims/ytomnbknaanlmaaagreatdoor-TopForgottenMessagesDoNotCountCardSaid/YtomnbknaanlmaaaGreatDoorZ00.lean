/- A machine of one's own over abstract values: slices are lists, structs are lists of cells; variables and rows lie in an abstract heap. -/
import Derived.WalkKit
import Derived.Orders
import Derived.WalkSpells
import Derived.WalkLawsBesides
import Derived.Deep.AppendLies
import Derived.Deep.Draws
import Derived.Maps.AppendAt
import Derived.RegionTactic
import Derived.OwnWalk
import Derived.Deep.QuietTactic
import Derived.BigQuiet
import Derived.Lib.Hide
import Derived.StillTailTactics
import Derived.Deep.RegionHeld3
import Derived.Deep.DeepCutAuto
import Derived.Deep.LoopGhost
import Derived.Test.YtomnbknaanlmaaaGreatDoorChecked
import Derived.Maps.Own
import Derived.Lib.ItoaNum
import Derived.Shelf.Unicode.PredsPay
import Derived.Shelf.Unicode.CaseLaid
import Derived.Shelf.Unicode.DecodeSlow
namespace Go.Proofs.YtomnbknaanlmaaaGreatDoor
open Go.RowKit
/-- closed values of one cell -/
inductive C where
  | int (k : IntKind) (n : Int)
  | bool (b : Bool)
  | str (s : ByteArray)
  | sl (es : List (List C))
  | nilS
  | ne
  | zs
  | nilP
  | nilF
/-- values of a frame -/
inductive V where
  | any
  | c (x : C)
  | agg (cs : List V)
  | tup (vs : List V)
  | row (id n : Nat)
  | ptr (id off : Nat)
  | rptr (id k i off : Nat)
  | eptr (cs : List C) (off : Nat)
  | fn (f : FuncId) (caps : List V)
  | mp (id : Nat)
  | rowE (id : Nat)
/-- blocks: a variable's cells; a row's elements; a row of rows, of which row i is v, a row of its own; a map of strings -/
inductive B where
  | box (cs : List V)
  | row (es : List (List C))
  | tab (es : List (List C)) (i : Nat) (v : V)
  | mp (l : List (ByteArray × ByteArray))
/-- slots, heap, shared rows, the next free number; which block each load and store of the region under way has met -/
structure St where
  t : Nat → V
  h : Nat → Option B
  sh : Nat → Bool
  nx : Nat
  lr : Nat → List Nat
  lw : Nat → List Nat
  og : List Nat
def upd {α : Type} (f : Nat → α) (i : Nat) (x : α) : Nat → α := fun j => if j = i then x else f j
def cOf : Value → Option C
  | .int k n => some (.int k n)
  | .bool b => some (.bool b)
  | .string s => some (.str s)
  | .slice none 0 0 => some .nilS
  | .pointer none => some .nilP
  | .nilFunc => some .nilF
  | _ => none
def vCell (v : Value) : V := (cOf v).elim .any .c
def vOf : Value → V
  | .agg cs => if cs.toList.all (·.oneCell') then .agg (cs.toList.map vCell) else .any
  | v => vCell v
/-- a function value: its number, captured values behind the arguments; from 1000000 on: with values ahead of the arguments (a method of a value) -/
def cFn (g : Nat) : Nat := bif Nat.blt g 1000000 then g else g % 1000000
def cAr {α : Type} (g : Nat) (args caps : List α) : List α := bif Nat.blt g 1000000 then args ++ caps else caps ++ args
def rho (t : Nat → V) : Operand → V
  | .tmp i => t i
  | .const v => vOf v
  | .global _ => .any
  | .func f => bif Nat.blt f 1000000 then .fn f [] else .any
def V.cells : V → Option (List V)
  | .agg cs => some cs
  | .c x => some [.c x]
  | .row id n => some [.row id n]
  | .ptr id off => some [.ptr id off]
  | .rptr id k i off => some [.rptr id k i off]
  | .eptr cs off => some [.eptr cs off]
  | .fn f caps => some [.fn f caps]
  | .mp id => some [.mp id]
  | _ => none
section
variable (P : Program)
def aggB (t : TypeId) : Option Bool :=
  match P.underlying t with
  | some (.struct _) => some true
  | some (.array _ _) => some true
  | some _ => some false
  | none => none
def szO (t : TypeId) : Option Nat := (P.info? t).map (·.size)
/-- a part of a row of cells -/
def partV (t : TypeId) (cs : List V) (off : Nat) : Option V :=
  (aggB P t).bind fun b => (szO P t).bind fun n => if b then (if off + n ≤ cs.length then some (.agg ((cs.drop off).take n)) else none) else cs[off]?
/-- integers -/
def intOp (op : BinOp) (k : IntKind) (a b : Int) : Option C :=
  match op with
  | .add => some (.int k (k.wrap (a + b)))
  | .sub => some (.int k (k.wrap (a - b)))
  | .mul => some (.int k (k.wrap (a * b)))
  | .quo => if b = 0 then none else some (.int k (k.wrap (a.tdiv b)))
  | .rem => if b = 0 then none else some (.int k (a.tmod b))
  | .and => some (.int k (k.wrap (BitVec.ofInt k.bits a &&& BitVec.ofInt k.bits b).toNat))
  | .or => some (.int k (k.wrap (BitVec.ofInt k.bits a ||| BitVec.ofInt k.bits b).toNat))
  | .xor => some (.int k (k.wrap (BitVec.ofInt k.bits a ^^^ BitVec.ofInt k.bits b).toNat))
  | .andNot => some (.int k (k.wrap (BitVec.ofInt k.bits a &&& ~~~ BitVec.ofInt k.bits b).toNat))
  | .eql => some (.bool (a == b))
  | .neq => some (.bool (a != b))
  | .lss => some (.bool (a < b))
  | .leq => some (.bool (a ≤ b))
  | .gtr => some (.bool (a > b))
  | .geq => some (.bool (a ≥ b))
  | _ => none
def strOp (op : BinOp) (a b : ByteArray) : Option C :=
  match op with
  | .add => if ((a.size + b.size : Nat) : Int) > IntKind.i64.max then none else some (.str (a ++ b))
  | .eql => some (.bool (a.toList == b.toList))
  | .neq => some (.bool !(a.toList == b.toList))
  | .lss => some (.bool (Op.bytesLess a.toList b.toList))
  | .leq => some (.bool (Op.bytesLess a.toList b.toList || a.toList == b.toList))
  | .gtr => some (.bool !(Op.bytesLess a.toList b.toList || a.toList == b.toList))
  | .geq => some (.bool !(Op.bytesLess a.toList b.toList))
  | _ => none
def shOp (op : BinOp) (k : IntKind) (a b : Int) : Option C :=
  match op with
  | .shl => if b < 0 then none else some (.int k (k.wrap (a * 2 ^ (min b.toNat k.bits))))
  | .shr => if b < 0 then none else some (.int k (a.fdiv (2 ^ (min b.toNat k.bits))))
  | _ => none
/-- equality at a type -/
def eqV : Nat → TypeId → V → V → Option Bool
  | 0, _, _, _ => none
  | d + 1, t, x, y =>
    match P.underlying t, x, y with
    | some .bool, .c (.bool a), .c (.bool b) => some (a == b)
    | some (.int _), .c (.int k a), .c (.int k' b) => if k = k' then some (a == b) else none
    | some .string, .c (.str a), .c (.str b) => some (a == b)
    | some (.slice _), .c .nilS, .c .nilS => some true
    | some (.slice _), .c .ne, .c .nilS => some false
    | some (.slice _), .c (.sl (_ :: _)), .c .nilS => some false
    | some (.struct fs), .agg xs, .agg ys =>
      if P.stoodInHeld t || P.eqGuardType P.depth t || fs.toList.any (fun f => f.name == "_") then none
      else fs.toList.foldr (fun f r => (partV P f.type xs f.offset).bind fun a => (partV P f.type ys f.offset).bind fun b => (eqV d f.type a b).bind fun q => if q then r else some false) (some true)
    | _, _, _ => none
def binV (op : BinOp) (t : TypeId) (x y : V) : Option V :=
  match x, y with
  | .c (.int k a), .c (.int k' b) =>
    match op with
    | .shl | .shr => (shOp op k a b).map .c
    | _ => if k = k' then (intOp op k a b).map .c else none
  | .c (.str a), .c (.str b) => (strOp op a b).map .c
  | x, y =>
    match op with
    | .eql => (eqV P 9 t x y).map fun q => .c (.bool q)
    | .neq => (eqV P 9 t x y).map fun q => .c (.bool !q)
    | _ => none
def unV (op : UnOp) (x : V) : Option V :=
  match op, x with
  | .neg, .c (.int k n) => some (.c (.int k (k.wrap (0 - n))))
  | .not, .c (.bool b) => some (.c (.bool !b))
  | _, _ => none
/-- the bounds of a slice expression that stays within the length -/
def bnd (x : Option V) (d : Nat) (m : Nat) : Option Nat :=
  match x with
  | none => some d
  | some (.c (.int _ i)) => if 0 ≤ i ∧ i ≤ m then some i.toNat else none
  | _ => none
def isIntT (t : TypeId) : Bool := match P.underlying t with | some (.int _) => true | _ => false
def isStrT (t : TypeId) : Bool := match P.underlying t with | some .string => true | _ => false
/-- 0: reckons with values alone; 1: reads memory or makes some; 2: writes -/
def kindOf (o : Op) : Nat :=
  match o with
  | .move _ | .assign _ | .pick .. | .build .. | .nilCheck _ | .binOp .. | .unOp .. | .makeFunc .. | .fieldAddr .. | .field .. | .indexAddr .. | .index .. | .extract .. => 0
  | .convert src dst _ => if (isIntT P src && isIntT P dst) || (isStrT P src && isStrT P dst) then 0 else 1
  | .load .. | .alloc _ | .box .. | .buildSlice .. | .makeSlice .. | .makeMap .. => 1
  | .slice t .. => if isStrT P t then 0 else 1
  | .call { callee := .value _, .. } => 1
  | .call { callee := .builtin .len, .. } => 0
  | .call { callee := .builtin .min, .. } => 0
  | .call { callee := .builtin .max, .. } => 0
  | _ => 2
/-- an append to a slice literal without elements that the region makes: it only makes a new row -/
def isLit0 (t : Nat) (q : Oper) : Bool := q.dst == some t && (match q.op with | .buildSlice _ 0 _ => true | _ => false)
def freshA (ops : Array Oper) (o : Op) : Bool :=
  match o with
  | .call { callee := .builtin .append, args, .. } => match args.toList with | .tmp t :: _ => ops.toList.any (isLit0 t) | _ => false
  | _ => false
def kindA (ops : Array Oper) (o : Op) : Nat := bif freshA ops o then 1 else kindOf P o
def splice {α : Type} (cs : List α) (off : Nat) (vs : List α) : List α := cs.take off ++ vs ++ cs.drop (off + vs.length)
def buildV (place : Nat → Option (Nat × Nat)) : List V → List (Nat × V) → Option (List V)
  | cs, [] => some cs
  | cs, (i, v) :: rest => (place i).bind fun p => v.cells.bind fun vs => if vs.length = p.2 ∧ p.1 + vs.length ≤ cs.length then buildV place (splice cs p.1 vs) rest else none
def zeroV (t : TypeId) : Option V := (P.info? t).bind fun i => i.zero.map vOf
def minV (mx : Bool) (x y : V) : Option V :=
  match x, y with
  | .c (.int k a), .c (.int k' b) => if k = k' then some (.c (.int k (if mx then (if a < b then b else a) else (if b < a then b else a)))) else none
  | _, _ => none
def strIx (s : ByteArray) (i : Int) : Option V := if 0 ≤ i then (s[i.toNat]?).map fun b => .c (.int .u8 b.toNat) else none
/-- operations that reckon with values alone -/
def ev0 (r : Operand → V) (o : Op) : Option V :=
  match o with
  | .move x | .assign x => some (r x)
  | .pick c a b => match r c with | .c (.bool q) => some (if q then r a else r b) | _ => none
  | .build t parts =>
    (zeroV P t).bind fun z => match z, P.underlying t with
    | .agg cs, some (.struct fs) => (fs.toList.mapM fun f => (szO P f.type).map fun n => (f.offset, n)).bind fun pl => (buildV (fun i => pl[i]?) cs (parts.toList.map fun p => (p.1, r p.2))).map .agg
    | .agg cs, some (.array _ e) => (szO P e).bind fun n => (buildV (fun i => some (i * n, n)) cs (parts.toList.map fun p => (p.1, r p.2))).map .agg
    | _, _ => none
  | .nilCheck x => match r x with | .ptr id off => some (.ptr id off) | .rptr id k i off => some (.rptr id k i off) | .eptr cs off => some (.eptr cs off) | .fn f caps => some (.fn f caps) | _ => none
  | .binOp op t x y _ => binV P op t (r x) (r y)
  | .unOp op _ x => unV op (r x)
  | .convert src dst x =>
    match P.underlying src, P.underlying dst, r x with
    | some (.int _), some (.int k), .c (.int _ n) => some (.c (.int k (k.wrap n)))
    | some .string, some .string, .c (.str s) => some (.c (.str s))
    | _, _, _ => none
  | .makeFunc (.func f) first caps => bif Nat.blt f 1000000 then (if first.isEmpty then some (.fn f (caps.toList.map r)) else if caps.isEmpty then some (.fn (f + 1000000) (first.toList.map r)) else none) else none
  | .fieldAddr t x i =>
    match P.underlying t with
    | some (.struct fs) => (fs[i]?).bind fun f => (szO P f.type).bind fun n => if n = 0 then none else
      match r x with
      | .ptr id off => some (.ptr id (off + f.offset))
      | .rptr id k i off => some (.rptr id k i (off + f.offset))
      | .eptr cs off => some (.eptr cs (off + f.offset))
      | _ => none
    | _ => none
  | .field t x i =>
    match P.underlying t, r x with
    | some (.struct fs), .agg cs => (fs[i]?).bind fun f => partV P f.type cs f.offset
    | _, _ => none
  | .indexAddr t x ix =>
    match P.underlying t, r x, r ix with
    | some (.slice e), .row id n, .c (.int _ i) => (szO P e).bind fun k => if 0 ≤ i ∧ i < n then some (.rptr id k i.toNat 0) else none
    | some (.slice e), .c (.sl es), .c (.int _ i) => (szO P e).bind fun k => if 0 ≤ i then (es[i.toNat]?).bind fun el => if el.length = k then some (.eptr el 0) else none else none
    | some (.array len e), .ptr id off, .c (.int _ i) => (szO P e).bind fun k => if 0 ≤ i ∧ i < len then some (.ptr id (off + i.toNat * k)) else none
    | _, _, _ => none
  | .index t x ix =>
    match P.underlying t, r x, r ix with
    | some .string, .c (.str s), .c (.int _ i) => strIx s i
    | some (.array len e), .agg cs, .c (.int _ i) => (szO P e).bind fun k => if 0 ≤ i ∧ i < len then partV P e cs (i.toNat * k) else none
    | _, _, _ => none
  | .slice t x lo hi none =>
    match P.underlying t, r x with
    | some .string, .c (.str s) => (bnd (hi.map r) s.size s.size).bind fun h => (bnd (lo.map r) 0 h).map fun l => .c (.str (s.extract l h))
    | _, _ => none
  | .extract x i => match r x with | .tup vs => vs[i]? | _ => none
  | .call { callee := .builtin .len, args, argTypes } =>
    match (argTypes[0]?).bind P.underlying, (args[0]?).map r with
    | some .string, some (.c (.str s)) => some (.c (.int .i64 s.size))
    | some (.slice _), some (.c (.sl es)) => some (.c (.int .i64 es.length))
    | some (.slice _), some (.c .nilS) => some (.c (.int .i64 0))
    | some (.slice _), some (.c .zs) => some (.c (.int .i64 0))
    | some (.slice _), some (.c .ne) => some (.c (.int .i64 0))
    | some (.slice _), some (.row _ n) => some (.c (.int .i64 n))
    | some (.slice _), some (.rowE _) => some (.c (.int .i64 0))
    | _, _ => none
  | .call { callee := .builtin .min, args, .. } => match args.toList.map r with | [x, y] => minV false x y | _ => none
  | .call { callee := .builtin .max, args, .. } => match args.toList.map r with | [x, y] => minV true x y | _ => none
  | _ => none
/-- a cell's value asx a closed one, and the rows that are shared by it -/
def frzC (h : Nat → Option B) : V → Option (C × List Nat)
  | .c .nilS => some (.sl [], [])
  | .c .zs => some (.sl [], [])
  | .c .ne => some (.sl [], [])
  | .c x => some (x, [])
  | .row id _ => match h id with | some (.row es) => some (.sl es, [id]) | _ => none
  | .rowE _ => some (.sl [], [])
  | _ => none
def frzL (h : Nat → Option B) : List V → Option (List C × List Nat)
  | [] => some ([], [])
  | v :: vs => (frzC h v).bind fun x => (frzL h vs).map fun y => (x.1 :: y.1, x.2 ++ y.2)
/-- a captured variable or a pointer, lent -/
def frzP (h : Nat → Option B) : V → Option (V × List Nat)
  | .ptr id off => match h id with | some (.box cs) => (frzL h cs).map fun x => (.eptr x.1 off, x.2) | _ => none
  | .eptr cs off => some (.eptr cs off, [])
  | .agg cs => (frzL h cs).map fun x => (.agg (x.1.map .c), x.2)
  | v => (frzC h v).map fun x => (.c x.1, x.2)
def frzPs (h : Nat → Option B) : List V → Option (List V × List Nat)
  | [] => some ([], [])
  | v :: vs => (frzP h v).bind fun x => (frzPs h vs).map fun y => (x.1 :: y.1, x.2 ++ y.2)
def frzA (h : Nat → Option B) : V → Option (V × List Nat)
  | .fn f caps => (frzPs h caps).map fun x => (.fn f x.1, x.2)
  | v => frzP h v
def frzAs (h : Nat → Option B) : List V → Option (List V × List Nat)
  | [] => some ([], [])
  | v :: vs => (frzA h v).bind fun x => (frzAs h vs).map fun y => (x.1 :: y.1, x.2 ++ y.2)
/-- load from an address -/
def loadV (h : Nat → Option B) (t : TypeId) : V → Option V
  | .ptr id off => match h id with | some (.box cs) => partV P t cs off | _ => none
  | .rptr id k i off => match h id with
    | some (.row es) => (es[i]?).bind fun e => if e.length = k then partV P t (e.map .c) off else none
    | some (.tab es q v) => if k = 1 ∧ off = 0 then (es[i]?).bind fun e => if i = q then partV P t [v] 0 else if e.length = 1 then partV P t (e.map .c) 0 else none else none
    | _ => none
  | .eptr cs off => partV P t (cs.map .c) off
  | _ => none
def cellR (f : Nat → Nat) : V → V
  | .row id n => .row (f id) n
  | v => v
def aggR (f : Nat → Nat) : V → V
  | .agg cs => .agg (cs.map (cellR f))
  | v => cellR f v
def V.ren (f : Nat → Nat) : V → V
  | .tup vs => .tup (vs.map (aggR f))
  | v => aggR f v
/-- results that hold no list: what a call was handed is only lent -/
def flatC : C → Bool
  | .sl _ => false
  | _ => true
def flat0 : V → Bool
  | .c x => flatC x
  | _ => false
def flat1 : V → Bool
  | .agg cs => cs.all flat0
  | v => flat0 v
def flatV : V → Bool
  | .tup vs => vs.all flat1
  | v => flat1 v
def lendB (z : V × List B) : Bool := z.2.isEmpty && flatV z.1
def byteC (b : UInt8) : C := .int .u8 b.toNat
def bytesOf : List (List C) → Option (List UInt8)
  | [] => some []
  | [.int .u8 n] :: es => (bytesOf es).map fun l => UInt8.ofNat n.toNat :: l
  | _ => none
def bodyOf (f : FuncId) : Option Func := (P.funcs[f]?).bind fun fn => if fn.name == "runtime.NumGoroutine" || fn.body.isNone then none else some fn
/-- the elements of a slice literal -/
def buildS (h : Nat → Option B) (k len : Nat) (r : Operand → V) : List (Nat × Operand) → List (List C) → Option (List (List C) × List Nat)
  | [], es => some (es, [])
  | p :: ps, es => if p.1 < len then (r p.2).cells.bind fun vs => (frzL h vs).bind fun x => if x.1.length = k then (buildS h k len r ps (es.set p.1 x.1)).map fun y => (y.1, x.2 ++ y.2) else none else none
/-- a new row; a row of rows has no row of its own yet -/
def mkB (e : TypeId) (k n : Nat) (es : List (List C)) : B := match P.underlying e, k with
  | some (.slice _), 1 => .tab es n (.c .nilS)
  | _, _ => .row es
/-- operations that read memory or make some: the value, new blocks, rows shared -/
def ev1 (call : FuncId → List V → Option (V × List B)) (h : Nat → Option B) (r : Operand → V) (base : Nat) (o : Op) : Option (V × List B × List Nat) :=
  match o with
  | .load t a => (loadV P h t (r a)).map fun v => (v, [], [])
  | .alloc e => (zeroV P e).bind fun z => z.cells.map fun cs => (.ptr base 0, [.box cs], [])
  | .box _ x => (r x).cells.map fun cs => (.ptr base 0, [.box cs], [])
  | .makeMap _ none => some (.mp base, [.mp []], [])
  | .buildSlice t len parts =>
    match P.underlying t with
    | some (.slice e) => (szO P e).bind fun k => if len * k ≤ 16777216 ∧ 0 < k then
        (zeroV P e).bind fun z => z.cells.bind fun zc => (frzL h zc).bind fun z' => if z'.1.length = k ∧ z'.2 = [] then
          if len = 0 then (if parts.toList.isEmpty then some (.c .zs, [], []) else none) else (buildS h k len r parts.toList (List.replicate len z'.1)).map fun a => (.row base len, [.row a.1], a.2)
        else none
      else none
    | _ => none
  | .makeSlice t l c =>
    match P.underlying t, r l, r c with
    | some (.slice e), .c (.int _ n), .c (.int _ m) => (P.info? e).bind fun i => if n = m ∧ 0 ≤ n ∧ n * i.bytes ≤ 140737488355328 ∧ n ≤ 9223372036854775807 ∧ 0 < i.size then
        (zeroV P e).bind fun z => z.cells.bind fun zc => (frzL h zc).bind fun z' => if z'.1.length = i.size ∧ z'.2 = [] then some (.row base n.toNat, [mkB P e i.size n.toNat (List.replicate n.toNat z'.1)], []) else none
      else none
    | _, _, _ => none
  | .slice t x lo hi mx =>
    match P.underlying t with
    | some (.slice e) => (frzC h (r x)).bind fun y => match y.1 with
      | .sl es => (szO P e).bind fun k => (bnd (mx.map r) es.length es.length).bind fun m => (bnd (hi.map r) es.length m).bind fun u => (bnd (lo.map r) 0 u).bind fun l =>
          if mx.isSome ∧ hi.isNone then none else if mx.isSome ∧ l = m then some (.c .zs, [], []) else if es.all (fun el => el.length == k) then some (.c (.sl ((es.drop l).take (u - l))), [], y.2) else none
      | _ => none
    | _ => none
  | .convert src dst x =>
    match P.underlying src, P.underlying dst with
    | some .string, some (.slice e) => match P.underlying e, r x with
      | some (.int .u8), .c (.str s) => if szO P e = some 1 ∧ s.size ≤ 9223372036854775807 then (if s.size = 0 then some (.c (.sl []), [], []) else some (.row base s.size, [.row (s.data.toList.map fun b => [byteC b])], [])) else none
      | _, _ => none
    | some (.slice e), some .string => match P.underlying e with
      | some (.int .u8) => (frzC h (r x)).bind fun y => match y.1 with
        | .sl es => (bytesOf es).map fun l => (.c (.str ⟨l.toArray⟩), [], [])
        | _ => none
      | _ => none
    | some (.slice _), some (.slice e) => match P.underlying e, r x with
      | some (.int .u8), .row id n => if src = dst then (match h id with
        | some (.row es) => if es.all (fun el => el.length == 1) = true ∧ es.isEmpty = false then some (.row id n, [], []) else none
        | _ => none) else none
      | _, _ => none
    | _, _ => none
  | .call { callee := .value f, args, .. } =>
    match r f with
    | .fn g caps => (bodyOf P (cFn g)).bind fun _ => (frzAs h (args.toList.map r)).bind fun x => (frzPs h caps).bind fun y =>
        (call (cFn g) (cAr g x.1 y.1)).bind fun z => if z.2.length ≤ 8 then some (z.1.ren (fun i => base + i), z.2, bif lendB z then [] else x.2 ++ y.2) else none
    | _ => none
  | .call { callee := .builtin .append, args, argTypes } =>
    match argTypes.toList, args.toList with
    | [t, t'], [s, x] => match P.underlying t, P.underlying t', r s with
      | some (.slice e), some (.slice _), .c .zs => (P.info? e).bind fun i => if 0 < i.size ∧ i.zero.map (fun z => z.cells.size) = some i.size then
          (frzC h (r x)).bind fun y => match y.1 with
          | .sl xs => if xs.all (fun el => el.length == i.size) = true ∧ (xs.length + xs.length / 4 + 192) * i.bytes ≤ 281474976710656 ∧ xs.length ≤ 9223372036854775807 then some (.row base xs.length, [.row xs], y.2) else none
          | _ => none
        else none
      | _, _, _ => none
    | _, _ => none
  | _ => none
def isRowV : V → Bool
  | .row _ _ => true
  | _ => false
/-- a row of its own becomes row i of a row of rows; the one that was so is shared from now on -/
def storeT (h : Nat → Option B) (sh : Nat → Bool) (id i : Nat) (x : V) : Option ((Nat → Option B) × (Nat → Bool)) :=
  match h id with
  | some (.row es) => if sh id = false ∧ i < es.length ∧ es.all (fun e => e.length == 1) = true then some (upd h id (some (.tab es i x)), sh) else none
  | some (.tab es q v) => if i < es.length then (if q < es.length then (frzC h v).bind fun y => if y.2.contains id then none else some (upd h id (some (.tab (es.set q [y.1]) i x)), fun j => if j ∈ y.2 then true else sh j) else some (upd h id (some (.tab es i x)), sh)) else none
  | _ => none
/-- a map of strings asx its entries, sorted by key -/
def befM (a b : ByteArray) : Bool := (Lit.string a.data.toList).before (Lit.string b.data.toList)
def insM (x : ByteArray × ByteArray) : List (ByteArray × ByteArray) → List (ByteArray × ByteArray)
  | [] => [x]
  | y :: r => bif befM x.1 y.1 then x :: y :: r else y :: insM x r
def putM (l : List (ByteArray × ByteArray)) (k v : ByteArray) : List (ByteArray × ByteArray) := insM (k, v) (l.filter fun p => !(p.1.data.toList == k.data.toList))
/-- store into memory -/
def storeV (h : Nat → Option B) (sh : Nat → Bool) (t : TypeId) (a x : V) : Option ((Nat → Option B) × (Nat → Bool)) :=
  x.cells.bind fun vs => if szO P t ≠ some vs.length then none else
  match a with
  | .ptr id off => match h id with
    | some (.box cs) => if off + vs.length ≤ cs.length then some (upd h id (some (.box (splice cs off vs))), sh) else none
    | _ => none
  | .rptr id k i off => if k = 1 ∧ off = 0 ∧ isRowV x = true then storeT h sh id i x else match h id with
    | some (.row es) => if sh id then none else (es[i]?).bind fun e => if e.length = k ∧ off + vs.length ≤ e.length then
        (frzL h vs).bind fun y => if y.2.contains id then none else some (upd h id (some (.row (es.set i (splice e off y.1)))), fun j => if j ∈ y.2 then true else sh j) else none
    | _ => none
  | _ => none
/-- what is appended to: the elements, the length, the row that ends -/
def tgtV (h : Nat → Option B) : V → Bool → Option (List (List C) × Nat × Option Nat)
  | .row id n, _ => match h id with | some (.row es) => some (es, n, some id) | _ => none
  | .c .nilS, _ => some ([], 0, none)
  | .c .zs, _ => some ([], 0, none)
  | _, _ => none
theorem tgtV_any {h : Nat → Option B} {s : V} {g : List (List C) × Nat × Option Nat} (hg : tgtV h s true = some g) (b : Bool) : tgtV h s b = some g := by
  unfold tgtV at hg ⊢
  split at hg
  · exact hg
  · exact hg
  · exact hg
  · cases hg
def dropO (h : Nat → Option B) : Option Nat → (Nat → Option B)
  | some id => upd h id none
  | none => h
/-- append; what is appended, asx a list -/
def strY : V → Option (C × List Nat)
  | .c (.str s) => some (.sl (s.data.toList.map fun b => [byteC b]), [])
  | _ => none
def apdV (h : Nat → Option B) (sh : Nat → Bool) (base : Nat) (e : TypeId) (s : V) (y : Option (C × List Nat)) : Option (V × (Nat → Option B) × (Nat → Bool)) :=
  (P.info? e).bind fun i => if 0 < i.size ∧ i.zero.map (fun z => z.cells.size) = some i.size then
    y.bind fun y => match y.1 with
    | .sl xs => (tgtV h s xs.isEmpty).bind fun g =>
      if (xs.all (fun el => el.length == i.size) && g.1.all (fun el => el.length == i.size)) = true ∧ ((g.2.1 + xs.length) + (g.2.1 + xs.length) / 4 + 192) * i.bytes ≤ 281474976710656 ∧ g.2.1 + xs.length ≤ 9223372036854775807 ∧ g.2.2.all (fun id => !y.2.contains id) = true then
        some (.row base (g.2.1 + xs.length), upd (dropO h g.2.2) base (some (.row (g.1 ++ xs))), upd (fun j => if j ∈ y.2 then true else sh j) base ((g.2.2.map sh).getD false))
      else none
    | _ => none
  else none
def isByteT (e : TypeId) : Bool := (match P.underlying e with | some (.int .u8) => true | _ => false) && szO P e == some 1
/-- a store into a map of strings -/
def setM (h : Nat → Option B) (sh : Nat → Bool) (t : TypeId) (m k v : V) : Option (V × (Nat → Option B) × (Nat → Bool)) :=
  match P.underlying t, m, k, v with
  | some (.map kt _), .mp id, .c (.str k), .c (.str v) => bif isStrT P kt then match h id with
    | some (.mp l) => if k.size ≤ maxLen ∧ v.size ≤ maxLen ∧ l.length < maxLen then some (.any, upd h id (some (.mp (putM l k v))), sh) else none
    | _ => none else none
  | _, _, _, _ => none
def ev2 (h : Nat → Option B) (sh : Nat → Bool) (r : Operand → V) (base : Nat) (o : Op) : Option (V × (Nat → Option B) × (Nat → Bool)) :=
  match o with
  | .store t a x => (storeV P h sh t (r a) (r x)).map fun y => (.any, y.1, y.2)
  | .mapUpdate t m k v => setM P h sh t (r m) (r k) (r v)
  | .call { callee := .builtin .append, args, argTypes } =>
    match argTypes.toList, args.toList with
    | [t, t'], [s, x] => match P.underlying t, P.underlying t' with
      | some (.slice e), some (.slice _) => apdV P h sh base e (r s) (frzC h (r x))
      | some (.slice e), some .string => bif isByteT P e then apdV P h sh base e (r s) (strY (r x)) else none
      | _, _ => none
    | _, _ => none
  | _ => none
def putD (t : Nat → V) (d : Option Nat) (v : V) : Nat → V := match d with | some d => upd t d v | none => t
def addB (h : Nat → Option B) (base : Nat) (bs : List B) : Nat → Option B := fun j => if base ≤ j ∧ j < base + bs.length then bs[j - base]? else h j
def visB (h : Nat → Option B) (rb anc : Nat) : Nat → Option B := fun id => if id < rb ∨ anc.testBit ((id - rb) / 8) then h id else none
/-- is the operation wanted? none: its guard is no bool -/
def wantedV (ops : Array Oper) (t : Nat → V) (o : Oper) : Option Bool :=
  match o.guard with
  | none => some true
  | some (j, want) => match ((ops[j]?).bind (·.dst)).map t with
    | some (.c (.bool b)) => some (b == want)
    | some (.tup _) => some false
    | _ => none
def isLd : Op → Bool
  | .load .. => true
  | _ => false
def isSt : Op → Bool
  | .store .. => true
  | _ => false
/-- which operations come before an operation, asx bits -/
def maskOf (o : Oper) (acc : List Nat) : Nat := o.after.toList.foldr (fun e s => if Region.binds .any e then (1 <<< e.on) ||| (acc.getD e.on 0 ||| s) else s) 0
def befL : List Oper → List Nat → List Nat
  | [], acc => acc
  | o :: os, acc => befL os (acc ++ [maskOf o acc])
def anOf (ops : Array Oper) (j : Nat) : Nat := (befL ops.toList []).getD j 0
/-- are two operations of a region ordered? -/
def ordB (an : Nat → Nat) (i j : Nat) : Bool := (an j).testBit i || (an i).testBit j || i == j
/-- ids of rows and variables in values -/
def V.ids : V → List Nat
  | .row id _ => [id]
  | .ptr id _ => [id]
  | .rptr id _ _ _ => [id]
  | .agg cs => cs.flatMap fun | .row id _ => [id] | .ptr id _ => [id] | .mp id => [id] | _ => []
  | .fn _ caps => caps.flatMap fun | .row id _ => [id] | .ptr id _ => [id] | .mp id => [id] | _ => []
  | .mp id => [id]
  | .rowE id => [id]
  | _ => []
def B.ids : B → List Nat
  | .box cs => cs.flatMap V.ids
  | .row _ => []
  | .tab _ _ v => v.ids
  | .mp _ => []
/-- numbered anew; what has no number is forgotten -/
def cellO (r : Nat → Option Nat) : V → V
  | .row id n => (r id).elim .any fun j => .row j n
  | .ptr id off => (r id).elim .any fun j => .ptr j off
  | .rptr id k i off => (r id).elim .any fun j => .rptr j k i off
  | .mp id => (r id).elim .any fun j => .mp j
  | .rowE id => (r id).elim .any fun j => .rowE j
  | .agg _ => .any
  | .tup _ => .any
  | .fn _ _ => .any
  | v => v
def aggO (r : Nat → Option Nat) : V → V
  | .agg cs => .agg (cs.map (cellO r))
  | .fn f caps => .fn f (caps.map (cellO r))
  | v => cellO r v
def topO (r : Nat → Option Nat) : V → V
  | .tup vs => .tup (vs.map (aggO r))
  | v => aggO r v
def B.renO (r : Nat → Option Nat) : B → B
  | .box cs => .box (cs.map (aggO r))
  | .row es => .row es
  | .tab es i v => .tab es i (aggO r v)
  | .mp l => .mp l
def pos (id : Nat) : List Nat → Option Nat
  | [] => none
  | x :: l => if x = id then some 0 else (pos id l).map (· + 1)
/-- each once -/
def dd : List Nat → List Nat
  | [] => []
  | x :: l => x :: (dd l).filter (fun y => y != x)
/-- nil slices become rows: all numbers from nid on are empty rows -/
def nilC (q : Nat) : V → V
  | .c .nilS => .row q 0
  | .c .zs => .row q 0
  | v => v
def nilL (q : Nat) : List V → List V
  | [] => []
  | v :: vs => nilC q v :: nilL (q + 1) vs
def nilA (q : Nat) : V → V
  | .agg cs => .agg (nilL q cs)
  | v => nilC q v
def nilAs (q : Nat) : List V → List V
  | [] => []
  | v :: vs => nilA q v :: nilAs (q + 100) vs
def nilT (q : Nat) : V → V
  | .tup vs => .tup (nilAs q vs)
  | v => nilA q v
def nilB (q : Nat) : B → B
  | .box cs => .box (nilL q cs)
  | .row es => .row es
  | .tab es i v => .tab es i (nilC q v)
  | .mp l => .mp l
def nilH (nid : Nat) (h : Nat → Option B) : Nat → Option B := fun id => if id < nid then (h id).map (nilB (nid + 200 * id + 100)) else some (.row [])
def nilSh (nid : Nat) (sh : Nat → Bool) : Nat → Bool := fun id => if id < nid then sh id else false
/-- what is left of a state: the values t of some slots; what they lead to is numbered anew -/
def reach (h : Nat → Option B) (vs : List V) : List Nat :=
  let i1 := dd (vs.flatMap V.ids)
  let i2 := dd (i1 ++ i1.flatMap fun id => (h id).elim [] B.ids)
  dd (i2 ++ i2.flatMap fun id => (h id).elim [] B.ids)
def canon (live : List Nat) (s : St) : St :=
  let t := fun i => nilA (s.nx + 200 * i) (s.t i)
  let h := nilH s.nx s.h
  let l := reach h (live.map t ++ s.og.map fun id => .ptr id 0)
  let r := fun id => pos id l
  { t := fun i => if i ∈ live then aggO r (t i) else .any,
    h := fun j => ((l[j]?).bind h).map (B.renO r),
    sh := fun j => ((l[j]?).map (nilSh s.nx s.sh)).getD false,
    nx := l.length, lr := fun _ => [], lw := fun _ => [], og := s.og.map fun id => (r id).getD 0 }
def topIds : V → List Nat
  | .tup vs => vs.flatMap V.ids
  | v => v.ids
/-- what is handed on of the heap -/
def onlyB (K : List Nat) (h : Nat → Option B) : Nat → Option B := fun id => if id ∈ K then h id else none
def isBox : Option B → Bool
  | some (.box _) => true
  | some (.mp _) => true
  | _ => false
/-- of what is handed on: what the caller asks for behind the call -/
def boxIds : Option B → List Nat
  | some (.box cs) => cs.flatMap topIds
  | _ => []
def ogK (K lv : List Nat) (s : St) : List Nat := K.filter fun id => (s.h id).isSome && (s.og.contains id || isBox (s.h id) || (lv.flatMap (fun i => topIds (s.t i) ++ (topIds (s.t i)).flatMap fun j => boxIds (s.h j))).contains id)
/-- the callee's numbers: what was handed on has its old number again -/
def bkR (og : List Nat) (base : Nat) (so : List Nat) (j : Nat) : Nat := match pos j so with | some q => og.getD q 0 | none => base + j
def bkH (K og : List Nat) (base : Nat) (s1 : St) (h : Nat → Option B) : Nat → Option B := fun id =>
  if base ≤ id ∧ id < base + s1.nx then (if (id - base) ∈ s1.og then none else (s1.h (id - base)).map (B.renO (fun j => some (bkR og base s1.og j))))
  else if id ∈ K then (match pos id og with | some q => (s1.og[q]?).bind fun j => (s1.h j).map (B.renO (fun j => some (bkR og base s1.og j))) | none => none)
  else h id
def bkS (K og : List Nat) (base : Nat) (s1 : St) (sh : Nat → Bool) : Nat → Bool := fun id =>
  if base ≤ id ∧ id < base + s1.nx then s1.sh (id - base)
  else if id ∈ K then (match pos id og with | some q => ((s1.og[q]?).map s1.sh).getD false | none => false)
  else sh id
/-- a call on the caller's heap: the result, the heap; lv: slots that are asked for behind it; N: all numbers lie below -/
def heapD (g : List V → St → Option (V × St)) (args : List V) (N : Nat) (lv : List Nat) (base : Nat) (s : St) : Option (V × (Nat → Option B) × (Nat → Bool)) :=
  (g args { t := fun _ => .any, h := onlyB (reach s.h args) s.h, sh := s.sh, nx := N, lr := fun _ => [], lw := fun _ => [], og := ogK (reach s.h args) lv s }).bind fun x =>
    if x.2.og.length = (ogK (reach s.h args) lv s).length ∧ x.2.nx ≤ 8 then
      some (topO (fun j => some (bkR (ogK (reach s.h args) lv s) base x.2.og j)) x.1, bkH (reach s.h args) (ogK (reach s.h args) lv s) base x.2 s.h, bkS (reach s.h args) (ogK (reach s.h args) lv s) base x.2 s.sh)
    else none
/-- operations in the order of the text; ch: functions that run on the caller's heap -/
def ioOf (ch : FuncId → Option (List V → St → Option (V × St))) (r : Operand → V) : Op → Option (FuncId × (List V → St → Option (V × St)) × List V)
  | .call { callee := .value f, args, .. } => match r f with
    | .fn g caps => (bodyOf P (cFn g)).bind fun _ => (ch (cFn g)).map fun h => (cFn g, h, cAr g (args.toList.map r) caps)
    | _ => none
  | _ => none
/-- what calls do: with frozen arguments; on the caller's heap, if the function is named and io says so -/
structure HP where
  call : FuncId → List V → Option (V × List B)
  io : FuncId → Bool
  ch : FuncId → Option (List V → St → Option (V × St))
  lv : Nat → List Nat
  N : Nat
def hp0 (call : FuncId → List V → Option (V × List B)) : HP := ⟨call, fun _ => false, fun _ => none, fun _ => [], 0⟩
def isIo (io : FuncId → Bool) : Op → Bool
  | .call { callee := .value (.func f), .. } => io f
  | .call { callee := .value (.tmp _), .. } => io 1000000
  | _ => false
def kindB (io : FuncId → Bool) (ops : Array Oper) (o : Op) : Nat := bif isIo io o then 2 else kindA P ops o
def ev2H (hp : HP) (base : Nat) (o : Op) (s : St) : Option (V × (Nat → Option B) × (Nat → Bool)) :=
  bif isIo hp.io o then (ioOf P hp.ch (rho s.t) o).bind fun z => heapD z.2.1 z.2.2 hp.N (hp.lv base) base s else ev2 P s.h s.sh (rho s.t) base o
def adrOf : V → List Nat
  | .ptr id _ => [id]
  | .rptr id _ _ _ => [id]
  | _ => []
def ldAdr (r : Operand → V) : Op → List Nat
  | .load _ a => adrOf (r a)
  | _ => []
def rowId : V → List Nat
  | .row id _ => [id]
  | _ => []
/-- the blocks that an operation writes -/
def stAdr (io : FuncId → Bool) (ops : Array Oper) (h : Nat → Option B) (r : Operand → V) : Op → List Nat
  | .store _ a _ => adrOf (r a)
  | .call { callee := .value (.func f), args, .. } => bif io f then reach h (args.toList.map r) else []
  | .call { callee := .value (.tmp t), args, .. } => bif io 1000000 then (match r (.tmp t) with | .fn g caps => reach h (cAr g (args.toList.map r) caps) | _ => []) else []
  | .call { callee := .builtin .append, args, argTypes } => bif freshA ops (.call { callee := .builtin .append, args, argTypes }) then [] else (match args.toList with | s :: _ => rowId (r s) | _ => [])
  | _ => []
/-- no operation that is not ordered against j has met the blocks -/
def logOk (n : Nat) (an : Nat → Nat) (lg : Nat → List Nat) (j : Nat) (asx : List Nat) : Bool := asx.all fun a => (List.range n).all fun i => !(lg i).contains a || ordB an i j
/-- one operation; hv: what it sees of the heap -/
def opD (hp : HP) (nt : Nat) (ops : Array Oper) (hv : Nat → Option B) (base : Nat) (o : Oper) (s : St) : Option St :=
  if (o.dst.all (fun d => decide (d < nt))) = true then
    (wantedV ops s.t o).bind fun w => if w then
      match kindB P hp.io ops o.op with
      | 0 => (ev0 P (rho s.t) o.op).map fun v => { s with t := putD s.t o.dst v }
      | 1 => (ev1 P hp.call hv (rho s.t) base o.op).bind fun x => if x.2.1.length ≤ 8 then
            some { s with t := putD s.t o.dst x.1, h := addB s.h base x.2.1, sh := fun i => if i ∈ x.2.2 then true else s.sh i } else none
      | _ => (ev2H P hp base o.op s).map fun x => { s with t := putD s.t o.dst x.1, h := x.2.1, sh := x.2.2 }
    else some { s with t := putD s.t o.dst (.tup []) }
  else none
/-- one operation of a region that draws its order -/
def stepD (hp : HP) (nt : Nat) (ops : Array Oper) (an : Nat → Nat) (rb j : Nat) (o : Oper) (s : St) : Option St :=
  if (logOk ops.size an s.lw j (ldAdr (rho s.t) o.op) && logOk ops.size an s.lr j (stAdr hp.io ops s.h (rho s.t) o.op)) = true then
    (opD P hp nt ops (visB s.h rb (an j)) (rb + 8 * j) o s).map fun s' => { s' with lr := upd s.lr j (ldAdr (rho s.t) o.op), lw := upd s.lw j (stAdr hp.io ops s.h (rho s.t) o.op) }
  else none
/-- may two operations be exchanged? -/
def isApd (ops : Array Oper) (o : Op) : Bool := match o with
  | .call { callee := .builtin .append, .. } => !freshA ops o
  | _ => false
def isWr (io : FuncId → Bool) (ops : Array Oper) (o : Op) : Bool := isSt o || isIo io o || isApd ops o
def freeB (io : FuncId → Bool) (ops : Array Oper) (x y : Oper) : Bool :=
  x.apart ops y && (kindB P io ops x.op == 0 || kindB P io ops y.op == 0 || (kindB P io ops x.op == 1 && kindB P io ops y.op == 1) || (isLd x.op && isWr io ops y.op) || (isWr io ops x.op && isLd y.op))
/-- the slots that are asked for behind a call in a region are none of those that the region fills -/
def lvD (io : FuncId → Bool) (lv : Nat → List Nat) (ops : Array Oper) (rb base : Nat) : List Nat := bif isIo io (ops.getD ((base - rb) / 8) default).op then lv ((base - rb) / 8) else []
def drawOk (io : FuncId → Bool) (lv : Nat → List Nat) (ops : Array Oper) : Bool :=
  Region.noSelect ops && ((List.range ops.size).all fun j => (ops.getD j default).after.toList.all (fun e => !Region.binds .any e || decide (e.on < j)) && (List.range j).all fun i =>
    (anOf ops j).testBit i || freeB P io ops (ops.getD i default) (ops.getD j default)) &&
  (List.range ops.size).all fun j => (lvD io lv ops 0 (8 * j)).all fun t => ops.toList.all fun o => o.dst != some t
def runD (hp : HP) (nt : Nat) (ops : Array Oper) (an : Nat → Nat) (rb : Nat) : List Nat → St → Option St
  | [], s => some s
  | j :: js, s => ((ops[j]?).bind fun o => stepD P hp nt ops an rb j o s).bind (runD hp nt ops an rb js)
def runN (call : FuncId → List V → Option (V × List B)) (ch : FuncId → Option (List V → St → Option (V × St))) (lv : Nat → List Nat) (nt : Nat) (ops : Array Oper) : List Oper → Nat → Nat → St → Option St
  | [], _, base, s => some { s with nx := base }
  | o :: os, j, base, s => match ioOf P ch (rho s.t) o.op with
    | some (_, g, args) => if (o.dst.all (fun d => decide (d < nt))) = true then (wantedV ops s.t o).bind fun w => if w then
          (heapD g args base (lv j) base s).bind fun x => runN call ch lv nt ops os (j + 1) (base + 8) { s with t := putD s.t o.dst x.1, h := x.2.1, sh := x.2.2 }
        else runN call ch lv nt ops os (j + 1) (base + 8) { s with t := putD s.t o.dst (.tup []) }
      else none
    | none => (opD P (hp0 call) nt ops s.h base o s).bind (runN call ch lv nt ops os (j + 1) (base + 8))
/-- what calls do: with frozen arguments; on the caller's heap -/
structure CT where
  call : FuncId → List V → Option (V × List B)
  io : FuncId → Bool
  ch : FuncId → Option (List V → St → Option (V × St))
def fstRegion : Code → Option Nat
  | .region id _ _ => some id
  | .seq a b => (fstRegion a).or (fstRegion b)
  | .block _ c => fstRegion c
  | .loop c => fstRegion c
  | .cond _ a b => (fstRegion a).or (fstRegion b)
  | .scope c => fstRegion c
  | _ => none
/-- a loop at whose head all rows are shared -/
def shq (live : Nat → List Nat) (c : Code) : Bool := match fstRegion c with
  | some id => !(live (5000000 + id)).isEmpty
  | none => false
def shareC (h : Nat → Option B) : V → V
  | .row i n => match h i with
    | some (.row es) => .c (.sl es)
    | _ => .row i n
  | .c .nilS => .c (.sl [])
  | .c .ne => .c (.sl [])
  | .c .zs => .c (.sl [])
  | x => x
def shareB (h : Nat → Option B) : Option B → Option B
  | some (.box cs) => some (.box (cs.map (shareC h)))
  | b => b
def shareS (q : Bool) (s : St) : St := bif q then { s with t := fun i => shareC s.h (s.t i), h := fun i => shareB s.h (s.h i), sh := fun i => bif Nat.blt i s.nx then true else s.sh i } else s
/-- where code is cut: the live slots ahead of it -/
def cutL (live : Nat → List Nat) (b : Code) : List Nat := match fstRegion b with | some id => live (1000000 + id) | none => []
def cutS (live : Nat → List Nat) (b : Code) (s : St) : St := match cutL live b with | [] => s | i :: l => canon (i :: l) s
/-- are calls of function values in a region heap calls? -/
def ioR (live : Nat → List Nat) (id : Nat) (io : FuncId → Bool) : FuncId → Bool := fun f => bif f == 1000000 then !(live (4000000 + id)).isEmpty else io f
/-- where code ends: 0: at its end; 1: it returns; n + 2: it leaves block n -/
def stepC (live : Nat → List Nat) (call : CT) (nt : Nat) (again : Code → St → Option (Nat × St)) : Code → St → Option (Nat × St)
  | .skip, s => some (0, s)
  | .region id ops true, s => if drawOk P (ioR live id call.io) (fun j => live (3000000 + 1000 * id + j)) ops = true then (runD P ⟨call.call, ioR live id call.io, call.ch, lvD (ioR live id call.io) (fun j => live (3000000 + 1000 * id + j)) ops s.nx, s.nx + 8 * ops.size⟩ nt ops (anOf ops) s.nx (List.range ops.size) { s with lr := fun _ => [], lw := fun _ => [] }).map fun s' => (0, canon (live (2 * id + 1)) { s' with nx := s.nx + 8 * ops.size }) else none
  | .region id ops false, s => (runN P call.call call.ch (fun j => live (3000000 + 1000 * id + j)) nt ops ops.toList 0 s.nx s).map fun s' => (0, canon (live (2 * id + 1)) s')
  | .seq a b, s => (stepC live call nt again a s).bind fun x => if x.1 = 0 then stepC live call nt again b (cutS live b x.2) else some x
  | .cond c a b, s => match rho s.t c with | .c (.bool q) => if q then stepC live call nt again a s else stepC live call nt again b s | _ => none
  | .block id c, s => (stepC live call nt again c s).map fun x => if x.1 = id + 2 then (0, x.2) else x
  | .loop c, s => (stepC live call nt again c (canon (((fstRegion c).map fun id => live (2 * id)).getD []) (shareS (shq live c) s))).bind fun x => if x.1 = 0 then again (.loop c) x.2 else some x
  | .exit id, s => some (id + 2, s)
  | .ret, s => some (1, s)
  | _, _ => none
/-- what a function returns -/
def resV (fn : Func) (s : St) : Option (List V) :=
  fn.results.toList.mapM fun
    | .tmp t => some (s.t t)
    | .cell a t => loadV P s.h t (s.t a)
def oneOrTup : List V → V
  | [v] => v
  | vs => .tup vs
def ownRow (h : Nat → Option B) (sh : Nat → Bool) (id : Nat) : Option B :=
  if sh id then none else match h id with
    | some (.row es) => some (.row es)
    | _ => none
def finV (s : St) (vs : List V) : Option (V × List B) :=
  let v := nilT s.nx (oneOrTup vs)
  let l := dd (topIds v)
  (l.mapM (ownRow (nilH s.nx s.h) (nilSh s.nx s.sh))).map fun bs => (topO (fun id => pos id l) v, bs)
def cellOk : V → Bool
  | .c _ => true
  | .row _ _ => true
  | .any => true
  | _ => false
def aggOk : V → Bool
  | .c _ => true
  | .row _ _ => true
  | .agg cs => cs.all cellOk
  | _ => false
def okRes : V → Bool
  | .tup vs => vs.all aggOk
  | v => aggOk v
/-- results that are shared from now on, if q says so -/
def finQ (q : Bool) (s : St) (vs : List V) : Option (V × List B) := bif q then (frzAs s.h vs).bind fun y => if okRes (oneOrTup y.1) = true then finV { s with sh := fun i => if i ∈ y.2 then true else s.sh i } y.1 else none else finV s vs
def fzL (live : FuncId → Nat → List Nat) (f : FuncId) : Bool := !(live f 2000001).isEmpty
def callD (fz : FuncId → Bool) (X : FuncId → List V → Option (V × List B)) (ex : FuncId → Nat → Code → St → Option (Nat × St)) (f : FuncId) (args : List V) : Option (V × List B) :=
  match X f args with
  | some r => some r
  | none => (bodyOf P f).bind fun fn => if args.length ≤ fn.ntmps then fn.body.bind fun c =>
    (ex f fn.ntmps c { t := fun i => args.getD i .any, h := fun _ => none, sh := fun _ => false, nx := 0, lr := fun _ => [], lw := fun _ => [], og := [] }).bind fun x =>
      if x.1 ≤ 1 then (resV P fn x.2).bind fun vs => (finQ (fz f) x.2 vs).bind fun y => if okRes y.1 then some y else none else none
    else none
/-- the last state of a function on the caller's heap: its results in the slots, numbered anew -/
def endN (vs : List V) (s : St) : St := canon (List.range vs.length) { s with t := fun i => vs.getD i .any }
/-- results on the caller's heap, shared if q says so -/
def finH (q : Bool) (s : St) (vs : List V) : Option (List V × St) := bif q then (frzAs s.h vs).bind fun y => if okRes (oneOrTup y.1) = true then some (y.1, { s with sh := fun i => if i ∈ y.2 then true else s.sh i }) else none else some (vs, s)
/-- a function on the caller's heap; io: which functions run so -/
def runH (fz : FuncId → Bool) (ex : FuncId → Nat → Code → St → Option (Nat × St)) (f : FuncId) (args : List V) (s : St) : Option (V × St) :=
  (bodyOf P f).bind fun fn => if args.length ≤ fn.ntmps then fn.body.bind fun c =>
    (ex f fn.ntmps c (canon (List.range args.length) { t := fun i => args.getD i .any, h := s.h, sh := s.sh, nx := s.nx, lr := fun _ => [], lw := fun _ => [], og := s.og })).bind fun x =>
      if x.1 ≤ 1 then (resV P fn x.2).bind fun vs => (finH (fz f) x.2 vs).map fun z => (oneOrTup ((List.range z.1.length).map (endN z.1 z.2).t), endN z.1 z.2) else none
    else none
def hst (a : List V) (s : St) : St := { t := fun i => a.getD i .any, h := s.h, sh := s.sh, nx := s.nx, lr := fun _ => [], lw := fun _ => [], og := s.og }
/-- code that defers one call of a closure over one variable: what stands ahead of it; the slots of the closure and of the variable, the closure's function; the rest -/
def dfOp : List Oper → Option (Nat × Nat × Nat)
  | [o1, o2] => match o1.op, o2.op with
    | .makeFunc (.func g) first caps, .defer { callee := .value (.tmp k), args, .. } => match first.toList, caps.toList, args.toList with
      | [], [.tmp p], [] => if o1.dst = some k ∧ o2.dst = none ∧ o1.guard = none ∧ o2.guard = none ∧ Nat.blt g 1000000 = true then some (k, p, g) else none
      | _, _, _ => none
    | _, _ => none
  | _ => none
def headD : Code → Option (Nat × Nat × Nat × Code)
  | .seq (.region _ ops false) rest => (dfOp ops.toList).map fun x => (x.1, x.2.1, x.2.2, rest)
  | _ => none
def splitD : Code → Option (List Code × Nat × Nat × Nat × Code)
  | .seq a b => match headD b with
    | some x => some ([a], x)
    | none => (splitD b).map fun x => (a :: x.1, x.2)
  | _ => none
/-- pieces of code one after the other -/
def exL (ex : Code → St → Option (Nat × St)) : List Code → St → Option (Nat × St)
  | [], s => some (0, s)
  | a :: l, s => (ex a s).bind fun x => if x.1 = 0 then exL ex l x.2 else none
/-- the variable of the deferred closure is kept in mind -/
def defD (nt k p : Nat) (x : Nat × St) : Option St :=
  if x.1 = 0 then match x.2.t p, x.2.t k with
    | .ptr id 0, .any => if k < nt then some { x.2 with og := x.2.og ++ [id] } else none
    | _, _ => none
  else none
def lastN : List Nat → Option Nat
  | [] => none
  | [x] => some x
  | _ :: l => lastN l
def slotsR (fn : Func) : List Nat := fn.results.toList.map fun | .tmp t => t | .cell a _ => a
/-- the deferred call -/
def endD (r : List V → St → Option (V × St)) (lv : List Nat) (s : St) : Option St :=
  (lastN s.og).bind fun id => (heapD r [.ptr id 0] s.nx lv s.nx { s with og := s.og.dropLast }).map fun y => { s with h := y.2.1, sh := y.2.2, nx := s.nx + 8, og := s.og.dropLast }
/-- a function on the caller's heap that defers a call -/
def runHD (fz : FuncId → Bool) (ex : FuncId → Nat → Code → St → Option (Nat × St)) (f : FuncId) (args : List V) (s : St) : Option (V × St) :=
  (bodyOf P f).bind fun fn => if args.length ≤ fn.ntmps then fn.body.bind fun c => (splitD c).bind fun d =>
    (exL (ex f fn.ntmps) d.1 (canon (List.range args.length) (hst args s))).bind fun x =>
      (defD fn.ntmps d.2.1 d.2.2.1 x).bind fun s1 => (ex f fn.ntmps d.2.2.2.2 s1).bind fun y =>
        if y.1 ≤ 1 ∧ y.2.og.length = s1.og.length then (endD (runH P fz ex d.2.2.2.1) (slotsR fn) y.2).bind fun s2 => (resV P fn s2).bind fun vs => (finH (fz f) s2 vs).map fun z => (oneOrTup ((List.range z.1.length).map (endN z.1 z.2).t), endN z.1 z.2)
        else none
    else none
/-- a rule for a function on the caller's heap: n arguments in the slots of its first state -/
structure XRule : Type 1 where
  n : Nat
  run : (β : Type) → St → (List V × St → Option β) → Option β
  ok : ∀ (β : Type) (s : St) (k : List V × St → Option β), run β s k = (run (List V × St) s some).bind k
def runX (R : XRule) (args : List V) (s : St) : Option (V × St) :=
  if args.length = R.n then (R.run (List V × St) (canon (List.range args.length) (hst args s)) some).map fun x => (oneOrTup ((List.range x.1.length).map (endN x.1 x.2).t), endN x.1 x.2) else none
def callH (io df fz : FuncId → Bool) (XH : FuncId → Option XRule) (ex : FuncId → Nat → Code → St → Option (Nat × St)) (f : FuncId) : Option (List V → St → Option (V × St)) :=
  match XH f with
  | some R => some (runX R)
  | none => bif io f then some (bif df f then runHD P fz ex f else runH P fz ex f) else none
/-- functions that have a rule: by their values alone; on the caller's heap -/
structure XT : Type 1 where
  c : FuncId → List V → Option (V × List B)
  h : FuncId → Option XRule
def ioB (live : FuncId → Nat → List Nat) (f : FuncId) : Bool := !(live f 2000000).isEmpty
def dfB (live : FuncId → Nat → List Nat) (f : FuncId) : Bool := !(live f 6000000).isEmpty
def execD (live : FuncId → Nat → List Nat) (X : XT) : Nat → FuncId → Nat → Code → St → Option (Nat × St)
  | 0, _, _, _, _ => none
  | n + 1, f, nt, c, s => stepC P (live f) ⟨callD P (fzL live) X.c (execD live X n), ioB live, callH P (ioB live) (dfB live) (fzL live) X.h (execD live X n)⟩ nt (execD live X n f nt) c s
end
end Go.Proofs.YtomnbknaanlmaaaGreatDoor
namespace Go.Proofs.YtomnbknaanlmaaaGreatDoor
open Go.RowKit
/-- Memory that was there is asx it was. -/
abbrev Bel (w w' : World) : Prop := Below w.heap.size w w'
theorem Bel.refl (w : World) : Bel w w := Below.refl _ _
theorem Bel.trans {a b c : World} (h : Bel a b) (h' : Bel b c) : Bel a c := Below.trans h (h'.mono h.size)
theorem Bel.alloc {a b : World} (h : Bel a b) (o : Obj) : Bel a (b.alloc o) := Below.alloc h h.size o
theorem Bel.drew {a b : World} (h : Bel a b) : Bel a b.drew := Below.drew h
theorem Bel.drewN {a b : World} (h : Bel a b) (n : Nat) : Bel a (b.drewN n) := ⟨h.os, h.tape, h.output, h.size, h.block⟩
theorem Bel.setCell {a b : World} (h : Bel a b) {p : Addr} (hp : a.heap.size ≤ p.block) (v : Value) : Bel a (b.setCell p v) := Below.setCell h hp v
theorem Bel.cell {a b : World} (h : Bel a b) {g : Nat} (o : Nat) (hg : g < a.heap.size) : b.cell? ⟨g, o, none⟩ = a.cell? ⟨g, o, none⟩ := Below.cell (p := ⟨g, o, none⟩) h hg
theorem Bel.cells {a b : World} (h : Bel a b) : (∀ g o, g < a.heap.size → b.cell? ⟨g, o, none⟩ = a.cell? ⟨g, o, none⟩) ∧ (∀ g o, g < a.heap.size → b.frozen? ⟨g, o, none⟩ = a.frozen? ⟨g, o, none⟩) :=
  ⟨fun g o hg => Below.cell (p := ⟨g, o, none⟩) h hg, fun g o hg => Below.frozen (p := ⟨g, o, none⟩) h hg⟩
/-- What lies in the blocks of S may have changed; all else that was there is asx it was. -/
structure Frm (S : Nat → Prop) (w w' : World) : Prop where
  os : w'.os = w.os
  tape : w'.tape = w.tape
  output : w'.output = w.output
  size : w.heap.size ≤ w'.heap.size
  block : ∀ k, k < w.heap.size → ¬ S k → w'.heap[k]? = w.heap[k]?
theorem Frm.refl (S : Nat → Prop) (w : World) : Frm S w w := ⟨rfl, rfl, rfl, Nat.le_refl _, fun _ _ _ => rfl⟩
theorem Frm.trans {S T : Nat → Prop} {a b c : World} (h : Frm S a b) (h' : Frm T b c) (hs : ∀ k, T k → k < a.heap.size → S k) : Frm S a c :=
  ⟨h'.os.trans h.os, h'.tape.trans h.tape, h'.output.trans h.output, Nat.le_trans h.size h'.size, fun k hk hn => (h'.block k (Nat.lt_of_lt_of_le hk h.size) (fun ht => hn (hs k ht hk))).trans (h.block k hk hn)⟩
theorem Frm.alloc {S : Nat → Prop} {a b : World} (h : Frm S a b) (o : Obj) : Frm S a (b.alloc o) :=
  ⟨h.os, h.tape, h.output, Nat.le_trans h.size (by simp), fun k hk hn => (Below.heap_alloc b o k (Nat.lt_of_lt_of_le hk h.size)).trans (h.block k hk hn)⟩
theorem Bel.frm {a b : World} (h : Bel a b) (S : Nat → Prop) : Frm S a b := ⟨h.os, h.tape, h.output, h.size, fun k hk _ => h.block k hk⟩
/-- The slice value '.slice A n c' holds the cells xs, k to an element, in memory that is there. -/
def Rd (w : World) (k : Nat) (A : Option Addr) (n c : Nat) (xs : List Value) : Prop :=
  xs.length = n * k ∧ n ≤ c ∧ c ≤ maxLen ∧ (∀ u ∈ xs, u.oneCell' = true) ∧ (0 < n * k → ∃ b off, A = some ⟨b, off, none⟩ ∧ b < w.heap.size ∧ ∀ j u, xs[j]? = some u → w.cell? ⟨b, off + j, none⟩ = some u)
section
variable {w w' : World} {k n c : Nat} {A : Option Addr} {xs : List Value}
theorem Rd.le (h : Rd w k A n c xs) : n ≤ c := h.2.1
theorem Rd.nil : Rd w k none 0 0 [] := ⟨by simp, by simp, by simp, by simp, fun h => absurd h (by simp)⟩
/-- the place where a slice's cells lie -/
theorem Rd.place (h : Rd w k A n c xs) (hn : 0 < n * k) : ∃ b off, A = some ⟨b, off, none⟩ ∧ b < w.heap.size ∧ ∀ j u, xs[j]? = some u → w.cell? ⟨b, off + j, none⟩ = some u := h.2.2.2.2 hn
end
/-- The block of a slice. -/
def blk (A : Option Addr) : Option Nat := A.map (·.block)
/-- A row of one's own: a slice that begins at the head of a block that nobody else has. -/
def Own (w : World) (base : Nat) (e : TypeId) (k : Nat) (A : Option Addr) (n c : Nat) (xs : List Value) : Prop :=
  w.ownsRow base e k (.slice A n c) n xs ∧ ∀ u ∈ xs, u.oneCell' = true
section
variable {w w' : World} {base e k n c : Nat} {A : Option Addr} {xs : List Value}
end
/-- Block g is just the cells cs of type t. -/
def Blk (w : World) (g : Nat) (t : TypeId) (cs : Array Value) : Prop := w.heap[g]? = some (.cells cs t (0, 0))
section
variable {w w' : World} {g : Nat} {t : TypeId} {cs : Array Value}
end
section
variable {P : Program} {w : World} {t e : TypeId} {k by_ base n c m d : Nat} {A B : Option Addr} {xs ys : List Value}
end
end Go.Proofs.YtomnbknaanlmaaaGreatDoor
namespace Go.Proofs.YtomnbknaanlmaaaGreatDoor
open Go.RowKit
/-- memory that stays asx it is -/
abbrev ZMap := Nat → Nat → Option Value
def ZLe (Z Z' : ZMap) : Prop := ∀ b o u, Z b o = some u → Z' b o = some u
def MLe (m m' : Nat → Option Value) : Prop := ∀ i v, m i = some v → m' i = some v
theorem ZLe.refl (Z : ZMap) : ZLe Z Z := fun _ _ _ h => h
theorem ZLe.trans {a b c : ZMap} (h : ZLe a b) (h' : ZLe b c) : ZLe a c := fun _ _ _ x => h' _ _ _ (h _ _ _ x)
theorem MLe.refl (m : Nat → Option Value) : MLe m m := fun _ _ h => h
theorem MLe.trans {a b c : Nat → Option Value} (h : MLe a b) (h' : MLe b c) : MLe a c := fun _ _ x => h' _ _ (h _ _ x)
inductive RepC (Z : ZMap) : Value → C → Prop where
  | int (k : IntKind) (n : Int) : RepC Z (.int k n) (.int k n)
  | bool (b : Bool) : RepC Z (.bool b) (.bool b)
  | str (s : ByteArray) : RepC Z (.string s) (.str s)
  | nilS : RepC Z (.slice none 0 0) .nilS
  | ne (a : Addr) (c : Nat) (hc : c ≤ maxLen) : RepC Z (.slice (some a) 0 c) .ne
  | zs (A : Option Addr) : RepC Z (.slice A 0 0) .zs
  | nilP : RepC Z (.pointer none) .nilP
  | nilF : RepC Z .nilFunc .nilF
  | sl (A : Option Addr) (n c k b off : Nat) (U : Nat → Value) (es : List (List C)) (hl : es.length = n) (hc : n ≤ c) (hm : c ≤ maxLen) (hk : ∀ e ∈ es, e.length = k) (hA : es ≠ [] → A = some ⟨b, off, none⟩)
      (hz : ∀ (i : Nat) (e : List C) (j : Nat) (x : C), es[i]? = some e → e[j]? = some x → Z b (off + (i * k + j)) = some (U (i * k + j)))
      (hr : ∀ (i : Nat) (e : List C) (j : Nat) (x : C), es[i]? = some e → e[j]? = some x → RepC Z (U (i * k + j)) x) (hN : A = none → c = 0) : RepC Z (.slice A n c) (.sl es)
theorem RepC.mono {Z Z' : ZMap} (h : ZLe Z Z') {v : Value} {x : C} (r : RepC Z v x) : RepC Z' v x := by
  induction r with
  | int k n => exact .int k n
  | bool b => exact .bool b
  | str s => exact .str s
  | nilS => exact .nilS
  | ne a c hc => exact .ne a c hc
  | zs A => exact .zs A
  | nilP => exact .nilP
  | nilF => exact .nilF
  | sl A n c k b off U es hl hc hm hk hA hz hr hN ih => exact .sl A n c k b off U es hl hc hm hk hA (fun i e j x a b => h _ _ _ (hz i e j x a b)) (fun i e j x a b => ih i e j x a b) hN
theorem RepC.one {Z : ZMap} {v : Value} {x : C} (r : RepC Z v x) : v.oneCell' = true := by cases r <;> rfl
inductive Rep (Z Y : ZMap) (m : Nat → Option Value) : Value → V → Prop where
  | any (v : Value) : Rep Z Y m v .any
  | c {v : Value} {x : C} (h : RepC Z v x) : Rep Z Y m v (.c x)
  | agg (cs : Array Value) (Cs : List V) (hl : cs.size = Cs.length) (h1 : ∀ u ∈ cs.toList, u.oneCell' = true) (hr : ∀ (i : Nat) (u : Value) (x : V), cs[i]? = some u → Cs[i]? = some x → Rep Z Y m u x) : Rep Z Y m (.agg cs) (.agg Cs)
  | tup (cs : Array Value) (Cs : List V) (hl : cs.size = Cs.length) (hr : ∀ (i : Nat) (u : Value) (x : V), cs[i]? = some u → Cs[i]? = some x → Rep Z Y m u x) : Rep Z Y m (.tuple cs) (.tup Cs)
  | row (id n : Nat) (A : Option Addr) (c : Nat) (h : m id = some (.slice A n c)) (hA : n ≠ 0 → ∃ g, A = some ⟨g, 0, none⟩) : Rep Z Y m (.slice A n c) (.row id n)
  | row0 (id : Nat) (A : Option Addr) (h : m id = some (.slice none 0 0)) : Rep Z Y m (.slice A 0 0) (.row id 0)
  | ptr (id off g : Nat) (h : m id = some (.pointer (some ⟨g, 0, none⟩))) : Rep Z Y m (.pointer (some ⟨g, off, none⟩)) (.ptr id off)
  | rptr (id k i off g n c : Nat) (h : m id = some (.slice (some ⟨g, 0, none⟩) n c)) : Rep Z Y m (.pointer (some ⟨g, i * k + off, none⟩)) (.rptr id k i off)
  | eptr (b o off : Nat) (U : Nat → Value) (cs : List C) (hz : ∀ (j : Nat) (x : C), cs[j]? = some x → Z b (o + j) = some (U j) ∨ Y b (o + j) = some (U j)) (hr : ∀ (j : Nat) (x : C), cs[j]? = some x → RepC Z (U j) x) : Rep Z Y m (.pointer (some ⟨b, o + off, none⟩)) (.eptr cs off)
  | fn (f : FuncId) (cs : Array Value) (Cs : List V) (hl : cs.size = Cs.length) (hr : ∀ (i : Nat) (u : Value) (x : V), cs[i]? = some u → Cs[i]? = some x → Rep Z Y m u x) (hf : Nat.blt f 1000000 = true) : Rep Z Y m (.func (.func f) #[] cs) (.fn f Cs)
  | mp (id g : Nat) (h : m id = some (.map (some g))) : Rep Z Y m (.map (some g)) (.mp id)
  | rowE (id g n c : Nat) (h : m id = some (.slice (some ⟨g, 0, none⟩) n c)) (hc : c ≤ maxLen) : Rep Z Y m (.slice (some ⟨g, 0, none⟩) 0 c) (.rowE id)
  | bnd (f : FuncId) (cs : Array Value) (Cs : List V) (hl : cs.size = Cs.length) (hr : ∀ (i : Nat) (u : Value) (x : V), cs[i]? = some u → Cs[i]? = some x → Rep Z Y m u x) (hf : Nat.blt f 1000000 = true) : Rep Z Y m (.func (.func f) cs #[]) (.fn (f + 1000000) Cs)
theorem Rep.mono {Z Z' Y : ZMap} {m m' : Nat → Option Value} (hz : ZLe Z Z') (hm : MLe m m') {v : Value} {x : V} (r : Rep Z Y m v x) : Rep Z' Y m' v x := by
  induction r with
  | any v => exact .any v
  | c h => exact .c (h.mono hz)
  | agg cs Cs hl h1 hr ih => exact .agg cs Cs hl h1 ih
  | tup cs Cs hl hr ih => exact .tup cs Cs hl ih
  | row id n A c h hA => exact .row id n A c (hm _ _ h) hA
  | row0 id A h => exact .row0 id A (hm _ _ h)
  | ptr id off g h => exact .ptr id off g (hm _ _ h)
  | rptr id k i off g n c h => exact .rptr id k i off g n c (hm _ _ h)
  | eptr b o off U cs h hr => exact .eptr b o off U cs (fun j x hx => (h j x hx).imp (hz _ _ _) id) (fun j x hx => (hr j x hx).mono hz)
  | fn f cs Cs hl hr hf ih => exact .fn f cs Cs hl ih hf
  | bnd f cs Cs hl hr hf ih => exact .bnd f cs Cs hl ih hf
  | mp id g h => exact .mp id g (hm _ _ h)
  | rowE id g n c h hc => exact .rowE id g n c (hm _ _ h) hc
section
variable {Z Y : ZMap} {m : Nat → Option Value}
theorem cOf_rep {v : Value} {x : C} (h : cOf v = some x) : RepC Z v x := by
  unfold cOf at h
  split at h <;> first | (injection h with h; subst h; constructor) | cases h
theorem vCell_rep (v : Value) : Rep Z Y m v (vCell v) := by
  unfold vCell
  cases h : cOf v with
  | none => exact .any v
  | some x => exact .c (cOf_rep h)
theorem vOf_rep (v : Value) : Rep Z Y m v (vOf v) := by
  unfold vOf
  split
  · rename_i cs
    split
    · rename_i h1
      refine .agg cs _ (by simp) (List.all_eq_true.1 h1) ?_
      intro i u x hu hx
      simp only [List.getElem?_map, Array.getElem?_toList, hu, Option.map_some, Option.some.injEq] at hx
      subst hx
      exact vCell_rep u
    · exact .any _
  · exact vCell_rep v
/-- the frame's slots -/
structure Fr (Z Y : ZMap) (m : Nat → Option Value) (nt : Nat) (t : Nat → V) (a : Act) : Prop where
  size : a.tmps.size = nt
  rep : ∀ i, Rep Z Y m (a.tmps.getD i undef) (t i)
theorem Fr.eval {nt : Nat} {t : Nat → V} {a : Act} (h : Fr Z Y m nt t a) (x : Operand) : Rep Z Y m (a.eval x) (rho t x) := by
  cases x with
  | tmp i => exact h.rep i
  | const v => exact vOf_rep v
  | global g => exact .any _
  | func f =>
    show Rep Z Y m _ (bif Nat.blt f 1000000 then .fn f [] else .any)
    cases hb : Nat.blt f 1000000 with
    | true => exact .fn f #[] [] rfl (by simp) hb
    | false => exact .any _
theorem Fr.mono {Z' : ZMap} {m' : Nat → Option Value} {nt : Nat} {t : Nat → V} {a : Act} (h : Fr Z Y m nt t a) (hz : ZLe Z Z') (hm : MLe m m') : Fr Z' Y m' nt t a :=
  ⟨h.size, fun i => (h.rep i).mono hz hm⟩
theorem Fr.put {nt : Nat} {t : Nat → V} {a : Act} (h : Fr Z Y m nt t a) (d : Option Nat) (hd : d.all (fun d => decide (d < nt)) = true) {v : Value} {x : V} (r : Rep Z Y m v x) : Fr Z Y m nt (putD t d x) (a.put d v) := by
  cases d with
  | none => exact h
  | some d =>
    have hlt : d < a.tmps.size := by rw [h.size]; simpa using hd
    refine ⟨by simp [Act.put, h.size], fun i => ?_⟩
    simp only [Act.put, putD, upd]
    by_cases e : i = d
    · subst e
      simp [Array.getD, hlt, r]
    · simp only [e, if_false]
      have := h.rep i
      simpa [Array.getD_eq_getD_getElem?, Array.getElem?_setIfInBounds_ne (Ne.symm e)] using this
theorem Rep.one {v : Value} {x : V} (r : Rep Z Y m v x) {vs : List V} (h : x.cells = some vs) : (∃ cs Cs, v = .agg cs ∧ x = .agg Cs ∧ vs = Cs) ∨ (v.oneCell' = true ∧ vs = [x] ∧ v.cells = #[v]) := by
  cases r with
  | any v => cases h
  | c h' => right; injection h with h; subst h; exact ⟨h'.one, rfl, by cases h' <;> rfl⟩
  | agg cs Cs hl h1 hr => left; injection h with h; exact ⟨cs, Cs, rfl, rfl, h.symm⟩
  | tup cs Cs hl hr => cases h
  | rowE id g n c h' hc => cases h
  | row id n A c h' hA => right; injection h with h; exact ⟨rfl, h.symm, rfl⟩
  | row0 id A h' => right; injection h with h; exact ⟨rfl, h.symm, rfl⟩
  | ptr id off g h' => right; injection h with h; exact ⟨rfl, h.symm, rfl⟩
  | rptr id k i off g n c h' => right; injection h with h; exact ⟨rfl, h.symm, rfl⟩
  | eptr b o off U cs h' hr => right; injection h with h; exact ⟨rfl, h.symm, rfl⟩
  | fn f cs Cs hl hr hf => right; injection h with h; exact ⟨rfl, h.symm, rfl⟩
  | bnd f cs Cs hl hr hf => right; injection h with h; exact ⟨rfl, h.symm, rfl⟩
  | mp id g h' => right; injection h with h; exact ⟨rfl, h.symm, rfl⟩
/-- arguments and captured values, in the order in which a function has them -/
def cArr (g : Nat) (asx cs : Array Value) : Array Value := bif Nat.blt g 1000000 then asx ++ cs else cs ++ asx
theorem app_rep {R : Value → V → Prop} {asx cs : Array Value} {xs ys : List V} (h1 : asx.size = xs.length) (h2 : cs.size = ys.length) (hx : ∀ (i : Nat) u v, asx[i]? = some u → xs[i]? = some v → R u v) (hy : ∀ (i : Nat) u v, cs[i]? = some u → ys[i]? = some v → R u v) :
    (asx ++ cs).size = (xs ++ ys).length ∧ ∀ (i : Nat) u v, (asx ++ cs)[i]? = some u → (xs ++ ys)[i]? = some v → R u v := by
  refine ⟨by simp [h1, h2], fun i u v hu hv => ?_⟩
  rw [Array.getElem?_append] at hu
  rw [List.getElem?_append] at hv
  rw [h1] at hu
  split at hu
  · rename_i hi
    rw [if_pos hi] at hv
    exact hx i u v hu hv
  · rename_i hi
    rw [if_neg hi] at hv
    exact hy _ u v hu hv
theorem cAr_rep {R : Value → V → Prop} (g : Nat) {asx cs : Array Value} {xs ys : List V} (h1 : asx.size = xs.length) (h2 : cs.size = ys.length) (hx : ∀ (i : Nat) u v, asx[i]? = some u → xs[i]? = some v → R u v) (hy : ∀ (i : Nat) u v, cs[i]? = some u → ys[i]? = some v → R u v) :
    (cArr g asx cs).size = (cAr g xs ys).length ∧ ∀ (i : Nat) u v, (cArr g asx cs)[i]? = some u → (cAr g xs ys)[i]? = some v → R u v := by
  unfold cArr cAr
  cases Nat.blt g 1000000 with
  | true => exact app_rep h1 h2 hx hy
  | false => exact app_rep h2 h1 hy hx
theorem mod_bnd (f : Nat) (h : Nat.blt f 1000000 = true) : (f + 1000000) % 1000000 = f := by have := Nat.le_of_ble_eq_true h; omega
theorem Rep.fun {v : Value} {g : Nat} {caps : List V} (r : Rep Z Y m v (.fn g caps)) : ∃ cs : Array Value, cs.size = caps.length ∧ (∀ (i : Nat) (u : Value) (x : V), cs[i]? = some u → caps[i]? = some x → Rep Z Y m u x) ∧ ((Nat.blt g 1000000 = true ∧ v = .func (.func g) #[] cs) ∨ (Nat.blt g 1000000 = false ∧ v = .func (.func (g % 1000000)) cs #[])) ∧
    ∀ (Z1 Y1 : ZMap) (m1 : Nat → Option Value) (Cs : List V), cs.size = Cs.length → (∀ (i : Nat) (u : Value) (x : V), cs[i]? = some u → Cs[i]? = some x → Rep Z1 Y1 m1 u x) → Rep Z1 Y1 m1 v (.fn g Cs) := by
  cases r with
  | fn _ cs _ hl hr hf => exact ⟨cs, hl, hr, .inl ⟨hf, rfl⟩, fun _ _ _ Cs a b => .fn g cs Cs a b hf⟩
  | bnd f cs _ hl hr hf => exact ⟨cs, hl, hr, .inr ⟨by rw [← Bool.not_eq_true]; intro h; have := Nat.le_of_ble_eq_true h; omega, congrArg (fun q => Value.func (.func q) cs #[]) (mod_bnd f hf).symm⟩, fun _ _ _ Cs a b => .bnd f cs Cs a b hf⟩
/-- a value's cells -/
theorem Rep.cells {v : Value} {x : V} (r : Rep Z Y m v x) {vs : List V} (h : x.cells = some vs) : Rep Z Y m (.agg v.cells) (.agg vs) := by
  rcases r.one h with ⟨cs, Cs, rfl, rfl, rfl⟩ | ⟨h1, rfl, hc⟩
  · exact r
  · rw [hc]
    refine .agg _ _ rfl (by simpa using h1) ?_
    intro i u y hu hy
    cases i with
    | zero => simp at hu hy; subst hu hy; exact r
    | succ i => simp at hu
/-- memory and the abstract heap -/
def blkOf (m : Nat → Option Value) (id : Nat) : Option Nat :=
  match m id with
  | some (.pointer (some a)) => some a.block
  | some (.slice (some a) _ _) => some a.block
  | some (.map (some g)) => some g
  | _ => none
/-- the world that a call begins with, and those blocks of it that it may change -/
structure WB where
  w : World
  A : Nat → Prop
/-- a block that may be changed -/
def WB.own (W : WB) (g : Nat) : Prop := W.w.heap.size ≤ g ∨ W.A g
abbrev BelA (W : WB) (w : World) : Prop := Frm W.A W.w w
def wb (w : World) : WB := ⟨w, fun _ => False⟩
theorem wb_own {w : World} {g : Nat} : (wb w).own g ↔ w.heap.size ≤ g := by simp [WB.own, wb]
theorem wb_bel {w w' : World} : BelA (wb w) w' ↔ Bel w w' := ⟨fun h => ⟨h.os, h.tape, h.output, h.size, fun k hk => h.block k hk (fun h => h)⟩, fun h => h.frm _⟩
theorem WB.own_new {W : WB} {w : World} (h : BelA W w) {g : Nat} (hg : w.heap.size ≤ g) : W.own g := .inl (Nat.le_trans h.size hg)
theorem Frm.cell {S : Nat → Prop} {a b : World} (h : Frm S a b) {g : Nat} (o : Nat) (hg : g < a.heap.size) (hs : ¬ S g) : b.cell? ⟨g, o, none⟩ = a.cell? ⟨g, o, none⟩ := World.cell?_of_block (w := a) (a := ⟨g, o, none⟩) (h.block g hg hs)
theorem BelA.trans {W : WB} {b c : World} (h : BelA W b) (h' : Bel b c) : BelA W c := Frm.trans h (h'.frm W.A) (fun _ h _ => h)
structure RowAt (base : Nat → Prop) (Z : ZMap) (s : Bool) (w : World) (g n c k : Nat) (es : List (List C)) : Prop where
  base : base g
  ex : ∃ t fz cur, w.heap[g]? = some (.cells cur t fz) ∧ cur.size = c * k ∧ ((∀ o, o < cur.size → ¬ (fz.1 ≤ o ∧ o < fz.2)) ∧ (k ≠ 1 → fz = (0, 0)) ∧ fz.1 ≤ fz.2) ∧
    ∀ (i : Nat) (e : List C) (j : Nat) (x : C), es[i]? = some e → e[j]? = some x → ∃ u, cur[i * k + j]? = some u ∧ RepC Z u x
  len : es.length = n
  le : n ≤ c
  max : c ≤ maxLen
  pos : 0 < k
  zero : n = 0 → c = 0
  each : ∀ e ∈ es, e.length = k
  apart : ∀ o, Z g o ≠ none → s = true ∧ o < n * k
def RowOk (base : Nat → Prop) (Z : ZMap) (m : Nat → Option Value) (s : Bool) (w : World) (id : Nat) (es : List (List C)) : Prop :=
  (m id = some (.slice none 0 0) ∧ es = []) ∨ ∃ g n c k, m id = some (.slice (some ⟨g, 0, none⟩) n c) ∧ RowAt base Z s w g n c k es
structure BoxAt (base : Nat → Prop) (Z Y : ZMap) (m : Nat → Option Value) (w : World) (g : Nat) (cs : List V) : Prop where
  base : base g
  ex : ∃ t vs, w.heap[g]? = some (.cells vs t (0, 0)) ∧ Rep Z Y m (.agg vs) (.agg cs)
  apart : ∀ o, Z g o = none
theorem cell_lt {w : World} {b o : Nat} {u : Value} (h : w.cell? ⟨b, o, none⟩ = some u) : b < w.heap.size := by
  rcases Nat.lt_or_ge b w.heap.size with hlt | hge
  · exact hlt
  · unfold World.cell? at h; rw [Array.getElem?_eq_none hge] at h; cases h
/-- unicode's tables; memory below K alone tells what they hold -/
def TW (w : World) : Prop := Lib.RVar 1 Lib.letterT w ∧ Lib.RVar 2 Lib.digitT w ∧ Lib.CaseVar 3 Lib.caseA w ∧ Lib.TabIs Tryz.prog w "unicode.properties" .u8 Lib.propertiesTab ∧ Lib.Utf8Tabs 5 6 w
def TWk (w : World) (K : Nat) : Prop := K ≤ w.heap.size ∧ ∀ w' : World, (∀ k, k < K → w'.heap[k]? = w.heap[k]?) → TW w'
theorem TWk.tw {w : World} {K : Nat} (h : TWk w K) : TW w := h.2 w fun _ _ => rfl
theorem TWk.up {w w' : World} {K : Nat} (h : TWk w K) (hs : w.heap.size ≤ w'.heap.size) (hb : ∀ k, k < K → w'.heap[k]? = w.heap[k]?) : TWk w' K :=
  ⟨Nat.le_trans h.1 hs, fun w2 h2 => h.2 w2 fun k hk => (h2 k hk).trans (hb k hk)⟩
/-- what is known of variables of the library -/
def GW (_w : World) : Prop :=
  (∃ m, _w.cell? ⟨4, 0, none⟩ = some (.int .i64 m)) ∧
  (∃ t fz, _w.heap[9]? = some (.cells (Lib.pow10Tab.map (Value.int .u64)).toArray t fz)) ∧
  (∃ ev, _w.cell? ⟨7, 0, none⟩ = some ev ∧ (ev = .nilIface ∨ ∃ te pe, ev = .iface te pe)) ∧
  (∃ ev, _w.cell? ⟨8, 0, none⟩ = some ev ∧ (ev = .nilIface ∨ ∃ te pe, ev = .iface te pe)) ∧
  (∃ K, TWk _w K) ∧
  True
/-- these variables are no blocks that may change -/
def GB (_w : World) (_A : Nat → Prop) : Prop :=
  ¬ _A 4 ∧
  ¬ _A 9 ∧
  ¬ _A 7 ∧
  ¬ _A 8 ∧
  (∃ K, TWk _w K ∧ ∀ g, _A g → K ≤ g) ∧
  True
theorem gb_no {W : WB} {A : Nat → Prop} {q : Nat} (hq : q < W.w.heap.size) (h1 : ¬ W.A q) (hA : ∀ g, A g → W.own g) : ¬ A q := fun ha => by
  rcases hA _ ha with h2 | h2
  · omega
  · exact h1 h2
theorem GB.of {W : WB} {w1 : World} {A : Nat → Prop} (_hb : BelA W w1) (h : GW W.w ∧ GB W.w W.A) (hA : ∀ g, A g → W.own g) : GB w1 A := by
  unfold GW GB at *
  first | exact trivial | skip
  all_goals obtain ⟨h1, h2⟩ := h
  obtain ⟨⟨x, h3⟩, h1⟩ := h1
  obtain ⟨h4, h2⟩ := h2
  refine ⟨gb_no (by have := cell_lt h3; simpa using this) h4 hA, ?_⟩
  obtain ⟨⟨_, _, h5⟩, h1⟩ := h1
  obtain ⟨h6, h2⟩ := h2
  refine ⟨gb_no (by have := (Array.getElem?_eq_some_iff.1 h5).1; simpa using this) h6 hA, ?_⟩
  obtain ⟨⟨x1, hc1, _⟩, h1⟩ := h1
  obtain ⟨ha1, h2⟩ := h2
  refine ⟨gb_no (by have := cell_lt hc1; simpa using this) ha1 hA, ?_⟩
  obtain ⟨⟨x2, hc2, _⟩, h1⟩ := h1
  obtain ⟨ha2, h2⟩ := h2
  refine ⟨gb_no (by have := cell_lt hc2; simpa using this) ha2 hA, ?_⟩
  obtain ⟨_, h1⟩ := h1
  obtain ⟨⟨K, hk1, hk2⟩, h2⟩ := h2
  refine ⟨⟨K, hk1.up _hb.size fun k hk => _hb.block k (Nat.lt_of_lt_of_le hk hk1.1) (fun ha => by have := hk2 k ha; omega), fun g hg => ?_⟩, ?_⟩
  · rcases hA g hg with h7 | h7
    · exact Nat.le_trans hk1.1 h7
    · exact hk2 g h7
  first | exact trivial | skip
theorem GB.no {w : World} (h : GW w) : GB w (fun _ => False) := by
  unfold GW at h
  unfold GB
  have hk : ∃ K, TWk w K := by
    obtain ⟨_, h⟩ := h
    obtain ⟨_, h⟩ := h
    obtain ⟨_, h⟩ := h
    obtain ⟨_, h⟩ := h
    exact h.1
  simp
  exact hk
/-- what the cells of a row of rows stand for -/
def headV : List C → V
  | [x] => .c x
  | _ => .any
def tabC (es : List (List C)) (i : Nat) (v : V) : List V := (es.map headV).set i v
structure TabAt (base : Nat → Prop) (Z Y : ZMap) (m : Nat → Option Value) (w : World) (g n c : Nat) (cs : List V) : Prop where
  base : base g
  ex : ∃ t fz cur, w.heap[g]? = some (.cells cur t fz) ∧ cur.size = c ∧ (∀ o, o < cur.size → ¬ (fz.1 ≤ o ∧ o < fz.2)) ∧
    ∀ (j : Nat) (x : V), cs[j]? = some x → ∃ u, cur[j]? = some u ∧ u.oneCell' = true ∧ Rep Z Y m u x
  len : cs.length = n
  le : n ≤ c
  apart : ∀ o, Z g o = none
theorem TabAt.up {base : Nat → Prop} {g n c : Nat} {Z Z' Y : ZMap} {m m' : Nat → Option Value} {w w' : World} {cs : List V} (h : TabAt base Z Y m w g n c cs) (hz : ZLe Z Z') (hm : MLe m m') (hw : ∀ x, w.heap[g]? = some x → w'.heap[g]? = some x) (ha : ∀ o, Z' g o = none) : TabAt base Z' Y m' w' g n c cs := by
  obtain ⟨t, fz, cur, h1, h2, h3, h4⟩ := h.ex
  exact ⟨h.base, ⟨t, fz, cur, hw _ h1, h2, h3, fun j x hx => by
    obtain ⟨u, a, b, r⟩ := h4 j x hx
    exact ⟨u, a, b, r.mono hz hm⟩⟩, h.len, h.le, ha⟩
/-- a map of strings -/
def strV : Value → ByteArray
  | .string s => s
  | _ => ⟨#[]⟩
structure MapAt (base : Nat → Prop) (w : World) (g : Nat) (l : List (ByteArray × ByteArray)) : Prop where
  base : base g
  ex : ∃ es clock, w.heap[g]? = some (.map es clock) ∧ es.size ≤ maxLen ∧ MapKept.Stamped es clock ∧
    (∀ x ∈ es.toList, ∃ k v, x.key = .string k ∧ x.val = .string v ∧ k.size ≤ maxLen ∧ v.size ≤ maxLen) ∧ l = (es.toList.map fun x => (strV x.key, strV x.val)).foldr insM []
structure Rel (w0 : WB) (Z Y : ZMap) (m : Nat → Option Value) (h : Nat → Option B) (sh : Nat → Bool) (w : World) : Prop where
  bel : BelA w0 w
  gw : GW w0.w ∧ GB w0.w w0.A
  zok : ∀ b o u, Z b o = some u → w.cell? ⟨b, o, none⟩ = some u
  yok : ∀ b o u, Y b o = some u → w0.w.cell? ⟨b, o, none⟩ = some u ∧ ¬ w0.A b
  box : ∀ id cs, h id = some (.box cs) → ∃ g, m id = some (.pointer (some ⟨g, 0, none⟩)) ∧ BoxAt w0.own Z Y m w g cs
  row : ∀ id es, h id = some (.row es) → RowOk w0.own Z m (sh id) w id es
  tab : ∀ id es i v, h id = some (.tab es i v) → ∃ g n c, m id = some (.slice (some ⟨g, 0, none⟩) n c) ∧ TabAt w0.own Z Y m w g n c (tabC es i v)
  mp : ∀ id l, h id = some (.mp l) → ∃ g, m id = some (.map (some g)) ∧ MapAt w0.own w g l
  inj : ∀ id id' g, h id ≠ none → h id' ≠ none → blkOf m id = some g → blkOf m id' = some g → id = id'
theorem BelA.gw {W : WB} {w' : World} (hb : BelA W w') (h : GW W.w ∧ GB W.w W.A) : GW w' := by
  unfold GW GB at *
  first | exact h.1 | skip
  all_goals obtain ⟨h1, h2⟩ := h
  obtain ⟨⟨x, h3⟩, h1⟩ := h1
  obtain ⟨h4, h2⟩ := h2
  refine ⟨⟨x, by rw [hb.cell _ (cell_lt h3) h4]; exact h3⟩, ?_⟩
  obtain ⟨⟨a, b, h5⟩, h1⟩ := h1
  obtain ⟨h6, h2⟩ := h2
  refine ⟨⟨a, b, by rw [hb.block _ (Array.getElem?_eq_some_iff.1 h5).1 h6]; exact h5⟩, ?_⟩
  obtain ⟨⟨x1, hc1, hd1⟩, h1⟩ := h1
  obtain ⟨ha1, h2⟩ := h2
  refine ⟨⟨x1, by rw [hb.cell _ (cell_lt hc1) ha1]; exact hc1, hd1⟩, ?_⟩
  obtain ⟨⟨x2, hc2, hd2⟩, h1⟩ := h1
  obtain ⟨ha2, h2⟩ := h2
  refine ⟨⟨x2, by rw [hb.cell _ (cell_lt hc2) ha2]; exact hc2, hd2⟩, ?_⟩
  obtain ⟨_, h1⟩ := h1
  obtain ⟨⟨K, hk1, hk2⟩, h2⟩ := h2
  refine ⟨⟨K, hk1.up hb.size fun k hk => hb.block k (Nat.lt_of_lt_of_le hk hk1.1) (fun ha => by have := hk2 k ha; omega)⟩, ?_⟩
  first | exact trivial | skip
theorem Rel.yok' {w0 : WB} {w : World} {h : Nat → Option B} {sh : Nat → Bool} (r : Rel w0 Z Y m h sh w) {b o : Nat} {u : Value} (hy : Y b o = some u) : w.cell? ⟨b, o, none⟩ = some u := by
  have := r.yok _ _ _ hy
  rw [r.bel.cell _ (cell_lt this.1) this.2]
  exact this.1
/-- a later world that keeps all that was there -/
theorem Rel.later {w0 : WB} {w w' : World} {h : Nat → Option B} {sh : Nat → Bool} (r : Rel w0 Z Y m h sh w) (hb : Bel w w') : Rel w0 Z Y m h sh w' := by
  have hblk : ∀ g x, w.heap[g]? = some x → w'.heap[g]? = some x := fun g x hx => by
    have hlt : g < w.heap.size := by
      rcases Nat.lt_or_ge g w.heap.size with hlt | hge
      · exact hlt
      · rw [Array.getElem?_eq_none hge] at hx; cases hx
    rw [hb.block g hlt]; exact hx
  refine ⟨BelA.trans r.bel hb, r.gw, fun b o u hz => ?_, r.yok, fun id cs hi => ?_, fun id es hi => ?_, fun id es i v hi => ?_, fun id l hi => ?_, r.inj⟩
  · have := r.zok b o u hz
    rw [hb.cell _ (cell_lt this)]; exact this
  · obtain ⟨g, hm, hg⟩ := r.box id cs hi
    obtain ⟨t, vs, hv, hr⟩ := hg.ex
    exact ⟨g, hm, ⟨hg.base, ⟨t, vs, hblk _ _ hv, hr⟩, hg.apart⟩⟩
  · rcases r.row id es hi with h0 | ⟨g, n, c, k, hm, hg⟩
    · exact .inl h0
    · obtain ⟨t, fz, cur, hv, hr⟩ := hg.ex
      exact .inr ⟨g, n, c, k, hm, ⟨hg.base, ⟨t, fz, cur, hblk _ _ hv, hr⟩, hg.len, hg.le, hg.max, hg.pos, hg.zero, hg.each, hg.apart⟩⟩
  · obtain ⟨g, n, c, hm, hg⟩ := r.tab id es i v hi
    exact ⟨g, n, c, hm, hg.up (ZLe.refl _) (MLe.refl _) (hblk g) hg.apart⟩
  · obtain ⟨g, hm, hg⟩ := r.mp id l hi
    obtain ⟨es, clock, hv, hr⟩ := hg.ex
    exact ⟨g, hm, ⟨hg.base, es, clock, hblk _ _ hv, hr⟩⟩
end
end Go.Proofs.YtomnbknaanlmaaaGreatDoor
