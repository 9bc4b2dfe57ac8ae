/- A machine of one's own over abstract values: slices are lists, structs are lists of cells; variables and rows lie in an abstract heap. -/
import Derived.WalkKit
import Derived.Orders
namespace Go.Proofs.YtmlcmoaonaomfaaGreatDoor
open Go.RowKit
abbrev x0q:=@Option.bind_some
abbrev x1q:=@Bool.false_eq_true
abbrev x2q:=@List.getD_eq_getElem?_getD
abbrev x3q:=@Int.toNat_natCast
abbrev x4q:=@Bool.and_self
abbrev x5q:=@List.getElem?_eq_getElem
abbrev x6q:=@Bool.and_eq_true
abbrev x7q:=@Array.getElem?_eq_getElem
abbrev x8q:=@List.length_nil
abbrev x9q:=@List.length_cons
abbrev x10q:=@List.drop_zero
abbrev x11q:=@Bool.not_false
abbrev x12q:=@List.length_append
abbrev x13q:=@Nat.zero_add
abbrev x14q:=@List.getElem?_map
abbrev x15q:=@Bool.not_true
abbrev x16q:=@Int.natCast_nonneg
abbrev x17q:=@List.all_cons
abbrev x18q:=@Option.map_some
abbrev x19q:=@beq_self_eq_true
abbrev x20q:=@if_true
abbrev x21q:=@if_false
abbrev x22q:=@cond_true
abbrev x23q:=@List.all_nil
abbrev x24q:=@Array.length_toList
abbrev BA:=ByteArray
abbrev Oq:=Option
inductive C where
 |int (k:IntKind) (n:Int)
 |bool (b:Bool)
 |str (s:BA)
 |sl (es:List (List C))
 |nilS
 |ne
 |zs
 |nilP
 |nilF
inductive V where
 |any
 |c (x:C)
 |agg (cs:List V)
 |tup (vs:List V)
 |row (id n:Nat)
 |ptr (id off:Nat)
 |rptr (id k i off:Nat)
 |eptr (cs:List C) (off:Nat)
 |fn (f:FuncId) (caps:List V)
 |mp (id:Nat)
 |rowE (id:Nat)
inductive B where
 |box (cs:List V)
 |row (es:List (List C))
 |tab (es:List (List C)) (i:Nat) (v:V)
 |mp (l:List (BA×BA))
structure St where
 t:Nat->V
 h:Nat->Oq B
 sh:Nat->Bool
 nx:Nat
 lr:Nat->List Nat
 lw:Nat->List Nat
 og:List Nat
def upd {α:Type} (f:Nat->α) (i:Nat) (x:α):Nat->α:=λj=>if j=i then x else f j
def cOf:Value->Oq C
 |.int k n=>some (.int k n)
 |.bool b=>some (.bool b)
 |.string s=>some (.str s)
 |.slice none 0 0=>some .nilS
 |.pointer none=>some .nilP
 |.nilFunc=>some .nilF
 |_=>none
def vCell (v:Value):V:=(cOf v).elim .any .c
def vOf:Value->V
 |.agg cs=>if cs.toList.all (·.oneCell') then .agg (cs.toList.map vCell) else .any
 |v=>vCell v
def cFn (g:Nat):Nat:=bif Nat.blt g 1000000 then g else g % 1000000
def cAr {α:Type} (g:Nat) (args caps:List α):List α:=bif Nat.blt g 1000000 then args++caps else caps++args
def rho (t:Nat->V):Operand->V
 |.tmp i=>t i
 |.const v=>vOf v
 |.global _=>.any
 |.func f=>bif Nat.blt f 1000000 then .fn f [] else .any
def V.cells:V->Oq (List V)
 |.agg cs=>some cs
 |.c x=>some [.c x]
 |.row id n=>some [.row id n]
 |.ptr id off=>some [.ptr id off]
 |.rptr id k i off=>some [.rptr id k i off]
 |.eptr cs off=>some [.eptr cs off]
 |.fn f caps=>some [.fn f caps]
 |.mp id=>some [.mp id]
 |_=>none
section
variable (P:Program)
def aggB (t:TypeId):Oq Bool :=
 match P.underlying t with
 |some (.struct _)=>some true
 |some (.array _ _)=>some true
 |some _=>some false
 |none=>none
def szO (t:TypeId):Oq Nat:=(P.info? t).map (·.size)
def partV (t:TypeId) (cs:List V) (off:Nat):Oq V :=
 (aggB P t).bind λb=>(szO P t).bind λn=>if b then (if off+n<=cs.length then some (.agg ((cs.drop off).take n)) else none) else cs[off]?
def intOp (op:BinOp) (k:IntKind) (a b:Int):Oq C :=
 match op with
 |.add=>some (.int k (k.wrap (a+b)))
 |.sub=>some (.int k (k.wrap (a - b)))
 |.mul=>some (.int k (k.wrap (a*b)))
 |.quo=>if b=0 then none else some (.int k (k.wrap (a.tdiv b)))
 |.rem=>if b=0 then none else some (.int k (a.tmod b))
 |.and=>some (.int k (k.wrap (BitVec.ofInt k.bits a &&& BitVec.ofInt k.bits b).toNat))
 |.or=>some (.int k (k.wrap (BitVec.ofInt k.bits a ||| BitVec.ofInt k.bits b).toNat))
 |.xor=>some (.int k (k.wrap (BitVec.ofInt k.bits a ^^^ BitVec.ofInt k.bits b).toNat))
 |.andNot=>some (.int k (k.wrap (BitVec.ofInt k.bits a &&& ~~~ BitVec.ofInt k.bits b).toNat))
 |.eql=>some (.bool (a==b))
 |.neq=>some (.bool (a != b))
 |.lss=>some (.bool (a<b))
 |.leq=>some (.bool (a<=b))
 |.gtr=>some (.bool (a>b))
 |.geq=>some (.bool (a≥b))
 |_=>none
def strOp (op:BinOp) (a b:BA):Oq C :=
 match op with
 |.add=>if ((a.size+b.size:Nat):Int)>IntKind.i64.max then none else some (.str (a++b))
 |.eql=>some (.bool (a.toList==b.toList))
 |.neq=>some (.bool !(a.toList==b.toList))
 |.lss=>some (.bool (Op.bytesLess a.toList b.toList))
 |.leq=>some (.bool (Op.bytesLess a.toList b.toList||a.toList==b.toList))
 |.gtr=>some (.bool !(Op.bytesLess a.toList b.toList||a.toList==b.toList))
 |.geq=>some (.bool !(Op.bytesLess a.toList b.toList))
 |_=>none
def shOp (op:BinOp) (k:IntKind) (a b:Int):Oq C :=
 match op with
 |.shl=>if b<0 then none else some (.int k (k.wrap (a*2 ^ (min b.toNat k.bits))))
 |.shr=>if b<0 then none else some (.int k (a.fdiv (2 ^ (min b.toNat k.bits))))
 |_=>none
def eqV:Nat->TypeId->V->V->Oq Bool
 |0,_,_,_=>none
 |d+1,t,x,y =>
  match P.underlying t,x,y with
  |some .bool,.c (.bool a),.c (.bool b)=>some (a==b)
  |some (.int _),.c (.int k a),.c (.int k' b)=>if k=k' then some (a==b) else none
  |some .string,.c (.str a),.c (.str b)=>some (a==b)
  |some (.slice _),.c .nilS,.c .nilS=>some true
  |some (.slice _),.c .ne,.c .nilS=>some false
  |some (.slice _),.c (.sl (_::_)),.c .nilS=>some false
  |some (.struct fs),.agg xs,.agg ys =>
   if P.stoodInHeld t || P.eqGuardType P.depth t || fs.toList.any (fun f => f.name == "_") then none
   else fs.toList.foldr (λf r=>(partV P f.type xs f.offset).bind λa=>(partV P f.type ys f.offset).bind λb=>(eqV d f.type a b).bind λq=>if q then r else some false) (some true)
  |_,_,_=>none
def binV (op:BinOp) (t:TypeId) (x y:V):Oq V :=
 match x,y with
 |.c (.int k a),.c (.int k' b) =>
  match op with
  |.shl|.shr=>(shOp op k a b).map .c
  |_=>if k=k' then (intOp op k a b).map .c else none
 |.c (.str a),.c (.str b)=>(strOp op a b).map .c
 |x,y =>
  match op with
  |.eql=>(eqV P 9 t x y).map λq=>.c (.bool q)
  |.neq=>(eqV P 9 t x y).map λq=>.c (.bool !q)
  |_=>none
def unV (op:UnOp) (x:V):Oq V :=
 match op,x with
 |.neg,.c (.int k n)=>some (.c (.int k (k.wrap (0 - n))))
 |.not,.c (.bool b)=>some (.c (.bool !b))
 |_,_=>none
def bnd (x:Oq V) (d:Nat) (m:Nat):Oq Nat :=
 match x with
 |none=>some d
 |some (.c (.int _ i))=>if 0<=i/\i<=m then some i.toNat else none
 |_=>none
def isIntT (t:TypeId):Bool:=match P.underlying t with|some (.int _)=>true|_=>false
def isStrT (t:TypeId):Bool:=match P.underlying t with|some .string=>true|_=>false
def kindOf (o:Op):Nat :=
 match o with
 |.move _|.assign _|.pick ..|.build ..|.nilCheck _|.binOp ..|.unOp ..|.makeFunc ..|.fieldAddr ..|.field ..|.indexAddr ..|.index ..|.extract ..=>0
 |.convert src dst _=>if (isIntT P src&&isIntT P dst)||(isStrT P src&&isStrT P dst) then 0 else 1
 |.load ..|.alloc _|.box ..|.buildSlice ..|.makeSlice ..|.makeMap ..=>1
 |.slice t ..=>if isStrT P t then 0 else 1
 |.call { callee:=.value _,.. }=>1
 |.call { callee:=.builtin .len,.. }=>0
 |.call { callee:=.builtin .min,.. }=>0
 |.call { callee:=.builtin .max,.. }=>0
 |_=>2
def isLit0 (t:Nat) (q:Oper):Bool:=q.dst==some t&&(match q.op with|.buildSlice _ 0 _=>true|_=>false)
def freshA (ops:Array Oper) (o:Op):Bool :=
 match o with
 |.call { callee:=.builtin .append,args,.. }=>match args.toList with|.tmp t::_=>ops.toList.any (isLit0 t)|_=>false
 |_=>false
def kindA (ops:Array Oper) (o:Op):Nat:=bif freshA ops o then 1 else kindOf P o
def splice {α:Type} (cs:List α) (off:Nat) (vs:List α):List α:=cs.take off++vs++cs.drop (off+vs.length)
def buildV (place:Nat->Oq (Nat×Nat)):List V->List (Nat×V)->Oq (List V)
 |cs,[]=>some cs
 |cs,(i,v)::rest=>(place i).bind λp=>v.cells.bind λvs=>if vs.length=p.2/\p.1+vs.length<=cs.length then buildV place (splice cs p.1 vs) rest else none
def zeroV (t:TypeId):Oq V:=(P.info? t).bind λi=>i.zero.map vOf
def minV (mx:Bool) (x y:V):Oq V :=
 match x,y with
 |.c (.int k a),.c (.int k' b)=>if k=k' then some (.c (.int k (if mx then (if a<b then b else a) else (if b<a then b else a)))) else none
 |_,_=>none
def strIx (s:BA) (i:Int):Oq V:=if 0<=i then (s[i.toNat]?).map λb=>.c (.int .u8 b.toNat) else none
def ev0 (r:Operand->V) (o:Op):Oq V :=
 match o with
 |.move x|.assign x=>some (r x)
 |.pick c a b=>match r c with|.c (.bool q)=>some (if q then r a else r b)|_=>none
 |.build t parts =>
  (zeroV P t).bind λz=>match z,P.underlying t with
  |.agg cs,some (.struct fs)=>(fs.toList.mapM λf=>(szO P f.type).map λn=>(f.offset,n)).bind λpl=>(buildV (λi=>pl[i]?) cs (parts.toList.map λp=>(p.1,r p.2))).map .agg
  |.agg cs,some (.array _ e)=>(szO P e).bind λn=>(buildV (λi=>some (i*n,n)) cs (parts.toList.map λp=>(p.1,r p.2))).map .agg
  |_,_=>none
 |.nilCheck x=>match r x with|.ptr id off=>some (.ptr id off)|.rptr id k i off=>some (.rptr id k i off)|.eptr cs off=>some (.eptr cs off)|.fn f caps=>some (.fn f caps)|_=>none
 |.binOp op t x y _=>binV P op t (r x) (r y)
 |.unOp op _ x=>unV op (r x)
 |.convert src dst x =>
  match P.underlying src,P.underlying dst,r x with
  |some (.int _),some (.int k),.c (.int _ n)=>some (.c (.int k (k.wrap n)))
  |some .string,some .string,.c (.str s)=>some (.c (.str s))
  |_,_,_=>none
 |.makeFunc (.func f) first caps=>bif Nat.blt f 1000000 then (if first.isEmpty then some (.fn f (caps.toList.map r)) else if caps.isEmpty then some (.fn (f+1000000) (first.toList.map r)) else none) else none
 |.fieldAddr t x i =>
  match P.underlying t with
  |some (.struct fs)=>(fs[i]?).bind λf=>(szO P f.type).bind λn=>if n=0 then none else
   match r x with
   |.ptr id off=>some (.ptr id (off+f.offset))
   |.rptr id k i off=>some (.rptr id k i (off+f.offset))
   |.eptr cs off=>some (.eptr cs (off+f.offset))
   |_=>none
  |_=>none
 |.field t x i =>
  match P.underlying t,r x with
  |some (.struct fs),.agg cs=>(fs[i]?).bind λf=>partV P f.type cs f.offset
  |_,_=>none
 |.indexAddr t x ix =>
  match P.underlying t,r x,r ix with
  |some (.slice e),.row id n,.c (.int _ i)=>(szO P e).bind λk=>if 0<=i/\i<n then some (.rptr id k i.toNat 0) else none
  |some (.slice e),.c (.sl es),.c (.int _ i)=>(szO P e).bind λk=>if 0<=i then (es[i.toNat]?).bind λel=>if el.length=k then some (.eptr el 0) else none else none
  |some (.array len e),.ptr id off,.c (.int _ i)=>(szO P e).bind λk=>if 0<=i/\i<len then some (.ptr id (off+i.toNat*k)) else none
  |_,_,_=>none
 |.index t x ix =>
  match P.underlying t,r x,r ix with
  |some .string,.c (.str s),.c (.int _ i)=>strIx s i
  |some (.array len e),.agg cs,.c (.int _ i)=>(szO P e).bind λk=>if 0<=i/\i<len then partV P e cs (i.toNat*k) else none
  |_,_,_=>none
 |.slice t x lo hi none =>
  match P.underlying t,r x with
  |some .string,.c (.str s)=>(bnd (hi.map r) s.size s.size).bind λh=>(bnd (lo.map r) 0 h).map λl=>.c (.str (s.extract l h))
  |_,_=>none
 |.extract x i=>match r x with|.tup vs=>vs[i]?|_=>none
 |.call { callee:=.builtin .len,args,argTypes } =>
  match (argTypes[0]?).bind P.underlying,(args[0]?).map r with
  |some .string,some (.c (.str s))=>some (.c (.int .i64 s.size))
  |some (.slice _),some (.c (.sl es))=>some (.c (.int .i64 es.length))
  |some (.slice _),some (.c .nilS)=>some (.c (.int .i64 0))
  |some (.slice _),some (.c .zs)=>some (.c (.int .i64 0))
  |some (.slice _),some (.c .ne)=>some (.c (.int .i64 0))
  |some (.slice _),some (.row _ n)=>some (.c (.int .i64 n))
  |some (.slice _),some (.rowE _)=>some (.c (.int .i64 0))
  |_,_=>none
 |.call { callee:=.builtin .min,args,.. }=>match args.toList.map r with|[x,y]=>minV false x y|_=>none
 |.call { callee:=.builtin .max,args,.. }=>match args.toList.map r with|[x,y]=>minV true x y|_=>none
 |_=>none
def frzC (h:Nat->Oq B):V->Oq (C×List Nat)
 |.c .nilS=>some (.sl [],[])
 |.c .zs=>some (.sl [],[])
 |.c .ne=>some (.sl [],[])
 |.c x=>some (x,[])
 |.row id _=>match h id with|some (.row es)=>some (.sl es,[id])|_=>none
 |.rowE _=>some (.sl [],[])
 |_=>none
def frzL (h:Nat->Oq B):List V->Oq (List C×List Nat)
 |[]=>some ([],[])
 |v::vs=>(frzC h v).bind λx=>(frzL h vs).map λy=>(x.1::y.1,x.2++y.2)
def frzP (h:Nat->Oq B):V->Oq (V×List Nat)
 |.ptr id off=>match h id with|some (.box cs)=>(frzL h cs).map λx=>(.eptr x.1 off,x.2)|_=>none
 |.eptr cs off=>some (.eptr cs off,[])
 |.agg cs=>(frzL h cs).map λx=>(.agg (x.1.map .c),x.2)
 |v=>(frzC h v).map λx=>(.c x.1,x.2)
def frzPs (h:Nat->Oq B):List V->Oq (List V×List Nat)
 |[]=>some ([],[])
 |v::vs=>(frzP h v).bind λx=>(frzPs h vs).map λy=>(x.1::y.1,x.2++y.2)
def frzA (h:Nat->Oq B):V->Oq (V×List Nat)
 |.fn f caps=>(frzPs h caps).map λx=>(.fn f x.1,x.2)
 |v=>frzP h v
def frzAs (h:Nat->Oq B):List V->Oq (List V×List Nat)
 |[]=>some ([],[])
 |v::vs=>(frzA h v).bind λx=>(frzAs h vs).map λy=>(x.1::y.1,x.2++y.2)
def loadV (h:Nat->Oq B) (t:TypeId):V->Oq V
 |.ptr id off=>match h id with|some (.box cs)=>partV P t cs off|_=>none
 |.rptr id k i off=>match h id with
  |some (.row es)=>(es[i]?).bind λe=>if e.length=k then partV P t (e.map .c) off else none
  |some (.tab es q v)=>if k=1/\off=0 then (es[i]?).bind λe=>if i=q then partV P t [v] 0 else if e.length=1 then partV P t (e.map .c) 0 else none else none
  |_=>none
 |.eptr cs off=>partV P t (cs.map .c) off
 |_=>none
def cellR (f:Nat->Nat):V->V
 |.row id n=>.row (f id) n
 |v=>v
def aggR (f:Nat->Nat):V->V
 |.agg cs=>.agg (cs.map (cellR f))
 |v=>cellR f v
def V.ren (f:Nat->Nat):V->V
 |.tup vs=>.tup (vs.map (aggR f))
 |v=>aggR f v
def flatC:C->Bool
 |.sl _=>false
 |_=>true
def flat0:V->Bool
 |.c x=>flatC x
 |_=>false
def flat1:V->Bool
 |.agg cs=>cs.all flat0
 |v=>flat0 v
def flatV:V->Bool
 |.tup vs=>vs.all flat1
 |v=>flat1 v
def lendB (z:V×List B):Bool:=z.2.isEmpty&&flatV z.1
def byteC (b:UInt8):C:=.int .u8 b.toNat
def bytesOf:List (List C)->Oq (List UInt8)
 |[]=>some []
 |[.int .u8 n]::es=>(bytesOf es).map λl=>UInt8.ofNat n.toNat::l
 |_=>none
def bodyOf (f : FuncId) : Option Func := (P.funcs[f]?).bind fun fn => if fn.name == "runtime.NumGoroutine" || fn.body.isNone then none else some fn
def buildS (h:Nat->Oq B) (k len:Nat) (r:Operand->V):List (Nat×Operand)->List (List C)->Oq (List (List C)×List Nat)
 |[],es=>some (es,[])
 |p::ps,es=>if p.1<len then (r p.2).cells.bind λvs=>(frzL h vs).bind λx=>if x.1.length=k then (buildS h k len r ps (es.set p.1 x.1)).map λy=>(y.1,x.2++y.2) else none else none
def mkB (e:TypeId) (k n:Nat) (es:List (List C)):B:=match P.underlying e,k with
 |some (.slice _),1=>.tab es n (.c .nilS)
 |_,_=>.row es
def ev1 (call:FuncId->List V->Oq (V×List B)) (h:Nat->Oq B) (r:Operand->V) (base:Nat) (o:Op):Oq (V×List B×List Nat) :=
 match o with
 |.load t a=>(loadV P h t (r a)).map λv=>(v,[],[])
 |.alloc e=>(zeroV P e).bind λz=>z.cells.map λcs=>(.ptr base 0,[.box cs],[])
 |.box _ x=>(r x).cells.map λcs=>(.ptr base 0,[.box cs],[])
 |.makeMap _ none=>some (.mp base,[.mp []],[])
 |.buildSlice t len parts =>
  match P.underlying t with
  |some (.slice e)=>(szO P e).bind λk=>if len*k<=16777216/\0<k then
    (zeroV P e).bind λz=>z.cells.bind λzc=>(frzL h zc).bind λz'=>if z'.1.length=k/\z'.2=[] then
     if len=0 then (if parts.toList.isEmpty then some (.c .zs,[],[]) else none) else (buildS h k len r parts.toList (List.replicate len z'.1)).map λa=>(.row base len,[.row a.1],a.2)
    else none
   else none
  |_=>none
 |.makeSlice t l c =>
  match P.underlying t,r l,r c with
  |some (.slice e),.c (.int _ n),.c (.int _ m)=>(P.info? e).bind λi=>if n=m/\0<=n/\n*i.bytes<=140737488355328/\n<=9223372036854775807/\0<i.size then
    (zeroV P e).bind λz=>z.cells.bind λzc=>(frzL h zc).bind λz'=>if z'.1.length=i.size/\z'.2=[] then some (.row base n.toNat,[mkB P e i.size n.toNat (List.replicate n.toNat z'.1)],[]) else none
   else none
  |_,_,_=>none
 |.slice t x lo hi mx =>
  match P.underlying t with
  |some (.slice e)=>(frzC h (r x)).bind λy=>match y.1 with
   |.sl es=>(szO P e).bind λk=>(bnd (mx.map r) es.length es.length).bind λm=>(bnd (hi.map r) es.length m).bind λu=>(bnd (lo.map r) 0 u).bind λl =>
     if mx.isSome/\hi.isNone then none else if mx.isSome/\l=m then some (.c .zs,[],[]) else if es.all (λel=>el.length==k) then some (.c (.sl ((es.drop l).take (u - l))),[],y.2) else none
   |_=>none
  |_=>none
 |.convert src dst x =>
  match P.underlying src,P.underlying dst with
  |some .string,some (.slice e)=>match P.underlying e,r x with
   |some (.int .u8),.c (.str s)=>if szO P e=some 1/\s.size<=9223372036854775807 then (if s.size=0 then some (.c (.sl []),[],[]) else some (.row base s.size,[.row (s.data.toList.map λb=>[byteC b])],[])) else none
   |_,_=>none
  |some (.slice e),some .string=>match P.underlying e with
   |some (.int .u8)=>(frzC h (r x)).bind λy=>match y.1 with
    |.sl es=>(bytesOf es).map λl=>(.c (.str ⟨l.toArray⟩),[],[])
    |_=>none
   |_=>none
  |some (.slice _),some (.slice e)=>match P.underlying e,r x with
   |some (.int .u8),.row id n=>if src=dst then (match h id with
    |some (.row es)=>if es.all (λel=>el.length==1)=true/\es.isEmpty=false then some (.row id n,[],[]) else none
    |_=>none) else none
   |_,_=>none
  |_,_=>none
 |.call { callee:=.value f,args,.. } =>
  match r f with
  |.fn g caps=>(bodyOf P (cFn g)).bind λ_=>(frzAs h (args.toList.map r)).bind λx=>(frzPs h caps).bind λy =>
    (call (cFn g) (cAr g x.1 y.1)).bind λz=>if z.2.length<=8 then some (z.1.ren (λi=>base+i),z.2,bif lendB z then [] else x.2++y.2) else none
  |_=>none
 |.call { callee:=.builtin .append,args,argTypes } =>
  match argTypes.toList,args.toList with
  |[t,t'],[s,x]=>match P.underlying t,P.underlying t',r s with
   |some (.slice e),some (.slice _),.c .zs=>(P.info? e).bind λi=>if 0<i.size/\i.zero.map (λz=>z.cells.size)=some i.size then
     (frzC h (r x)).bind λy=>match y.1 with
     |.sl xs=>if xs.all (λel=>el.length==i.size)=true/\(xs.length+xs.length / 4+192)*i.bytes<=281474976710656/\xs.length<=9223372036854775807 then some (.row base xs.length,[.row xs],y.2) else none
     |_=>none
    else none
   |_,_,_=>none
  |_,_=>none
 |_=>none
def isRowV:V->Bool
 |.row _ _=>true
 |_=>false
def storeT (h:Nat->Oq B) (sh:Nat->Bool) (id i:Nat) (x:V):Oq ((Nat->Oq B)×(Nat->Bool)) :=
 match h id with
 |some (.row es)=>if sh id=false/\i<es.length/\es.all (λe=>e.length==1)=true then some (upd h id (some (.tab es i x)),sh) else none
 |some (.tab es q v)=>if i<es.length then (if q<es.length then (frzC h v).bind λy=>if y.2.contains id then none else some (upd h id (some (.tab (es.set q [y.1]) i x)),λj=>if j∈y.2 then true else sh j) else some (upd h id (some (.tab es i x)),sh)) else none
 |_=>none
def befM (a b:BA):Bool:=(Lit.string a.data.toList).before (Lit.string b.data.toList)
def insM (x:BA×BA):List (BA×BA)->List (BA×BA)
 |[]=>[x]
 |y::r=>bif befM x.1 y.1 then x::y::r else y::insM x r
def putM (l:List (BA×BA)) (k v:BA):List (BA×BA):=insM (k,v) (l.filter λp=>!(p.1.data.toList==k.data.toList))
def storeV (h:Nat->Oq B) (sh:Nat->Bool) (t:TypeId) (a x:V):Oq ((Nat->Oq B)×(Nat->Bool)) :=
 x.cells.bind λvs=>if szO P t≠some vs.length then none else
 match a with
 |.ptr id off=>match h id with
  |some (.box cs)=>if off+vs.length<=cs.length then some (upd h id (some (.box (splice cs off vs))),sh) else none
  |_=>none
 |.rptr id k i off=>if k=1/\off=0/\isRowV x=true then storeT h sh id i x else match h id with
  |some (.row es)=>if sh id then none else (es[i]?).bind λe=>if e.length=k/\off+vs.length<=e.length then
    (frzL h vs).bind λy=>if y.2.contains id then none else some (upd h id (some (.row (es.set i (splice e off y.1)))),λj=>if j∈y.2 then true else sh j) else none
  |_=>none
 |_=>none
def tgtV (h:Nat->Oq B):V->Bool->Oq (List (List C)×Nat×Oq Nat)
 |.row id n,_=>match h id with|some (.row es)=>some (es,n,some id)|_=>none
 |.c .nilS,_=>some ([],0,none)
 |.c .zs,_=>some ([],0,none)
 |_,_=>none
theorem q1d8 {h:Nat->Oq B} {s:V} {g:List (List C)×Nat×Oq Nat} (hg:tgtV h s true=some g) (b:Bool):tgtV h s b=some g:=by
 unfold tgtV at hg ⊢
 split at hg
 ·exact hg
 ·exact hg
 ·exact hg
 ·cases hg
def dropO (h:Nat->Oq B):Oq Nat->(Nat->Oq B)
 |some id=>upd h id none
 |none=>h
def strY:V->Oq (C×List Nat)
 |.c (.str s)=>some (.sl (s.data.toList.map λb=>[byteC b]),[])
 |_=>none
def apdV (h:Nat->Oq B) (sh:Nat->Bool) (base:Nat) (e:TypeId) (s:V) (y:Oq (C×List Nat)):Oq (V×(Nat->Oq B)×(Nat->Bool)) :=
 (P.info? e).bind λi=>if 0<i.size/\i.zero.map (λz=>z.cells.size)=some i.size then
  y.bind λy=>match y.1 with
  |.sl xs=>(tgtV h s xs.isEmpty).bind λg =>
   if (xs.all (λel=>el.length==i.size)&&g.1.all (λel=>el.length==i.size))=true/\((g.2.1+xs.length)+(g.2.1+xs.length) / 4+192)*i.bytes<=281474976710656/\g.2.1+xs.length<=9223372036854775807/\g.2.2.all (λid=>!y.2.contains id)=true then
    some (.row base (g.2.1+xs.length),upd (dropO h g.2.2) base (some (.row (g.1++xs))),upd (λj=>if j∈y.2 then true else sh j) base ((g.2.2.map sh).getD false))
   else none
  |_=>none
 else none
def isByteT (e:TypeId):Bool:=(match P.underlying e with|some (.int .u8)=>true|_=>false)&&szO P e==some 1
def setM (h:Nat->Oq B) (sh:Nat->Bool) (t:TypeId) (m k v:V):Oq (V×(Nat->Oq B)×(Nat->Bool)) :=
 match P.underlying t,m,k,v with
 |some (.map kt _),.mp id,.c (.str k),.c (.str v)=>bif isStrT P kt then match h id with
  |some (.mp l)=>if k.size<=maxLen/\v.size<=maxLen/\l.length<maxLen then some (.any,upd h id (some (.mp (putM l k v))),sh) else none
  |_=>none else none
 |_,_,_,_=>none
def ev2 (h:Nat->Oq B) (sh:Nat->Bool) (r:Operand->V) (base:Nat) (o:Op):Oq (V×(Nat->Oq B)×(Nat->Bool)) :=
 match o with
 |.store t a x=>(storeV P h sh t (r a) (r x)).map λy=>(.any,y.1,y.2)
 |.mapUpdate t m k v=>setM P h sh t (r m) (r k) (r v)
 |.call { callee:=.builtin .append,args,argTypes } =>
  match argTypes.toList,args.toList with
  |[t,t'],[s,x]=>match P.underlying t,P.underlying t' with
   |some (.slice e),some (.slice _)=>apdV P h sh base e (r s) (frzC h (r x))
   |some (.slice e),some .string=>bif isByteT P e then apdV P h sh base e (r s) (strY (r x)) else none
   |_,_=>none
  |_,_=>none
 |_=>none
def putD (t:Nat->V) (d:Oq Nat) (v:V):Nat->V:=match d with|some d=>upd t d v|none=>t
def addB (h:Nat->Oq B) (base:Nat) (bs:List B):Nat->Oq B:=λj=>if base<=j/\j<base+bs.length then bs[j - base]? else h j
def visB (h:Nat->Oq B) (rb anc:Nat):Nat->Oq B:=λid=>if id<rb∨anc.testBit ((id - rb) / 8) then h id else none
def wantedV (ops:Array Oper) (t:Nat->V) (o:Oper):Oq Bool :=
 match o.guard with
 |none=>some true
 |some (j,want)=>match ((ops[j]?).bind (·.dst)).map t with
  |some (.c (.bool b))=>some (b==want)
  |some (.tup _)=>some false
  |_=>none
def isLd:Op->Bool
 |.load ..=>true
 |_=>false
def isSt:Op->Bool
 |.store ..=>true
 |_=>false
def maskOf (o:Oper) (acc:List Nat):Nat:=o.after.toList.foldr (λe s=>if Region.binds .any e then (1 <<< e.on) ||| (acc.getD e.on 0 ||| s) else s) 0
def befL:List Oper->List Nat->List Nat
 |[],acc=>acc
 |o::os,acc=>befL os (acc++[maskOf o acc])
def anOf (ops:Array Oper) (j:Nat):Nat:=(befL ops.toList []).getD j 0
def ordB (an:Nat->Nat) (i j:Nat):Bool:=(an j).testBit i||(an i).testBit j||i==j
def V.ids:V->List Nat
 |.row id _=>[id]
 |.ptr id _=>[id]
 |.rptr id _ _ _=>[id]
 |.agg cs=>cs.flatMap λ|.row id _=>[id]|.ptr id _=>[id]|.mp id=>[id]|_=>[]
 |.fn _ caps=>caps.flatMap λ|.row id _=>[id]|.ptr id _=>[id]|.mp id=>[id]|_=>[]
 |.mp id=>[id]
 |.rowE id=>[id]
 |_=>[]
def B.ids:B->List Nat
 |.box cs=>cs.flatMap V.ids
 |.row _=>[]
 |.tab _ _ v=>v.ids
 |.mp _=>[]
def cellO (r:Nat->Oq Nat):V->V
 |.row id n=>(r id).elim .any λj=>.row j n
 |.ptr id off=>(r id).elim .any λj=>.ptr j off
 |.rptr id k i off=>(r id).elim .any λj=>.rptr j k i off
 |.mp id=>(r id).elim .any λj=>.mp j
 |.rowE id=>(r id).elim .any λj=>.rowE j
 |.agg _=>.any
 |.tup _=>.any
 |.fn _ _=>.any
 |v=>v
def aggO (r:Nat->Oq Nat):V->V
 |.agg cs=>.agg (cs.map (cellO r))
 |.fn f caps=>.fn f (caps.map (cellO r))
 |v=>cellO r v
def topO (r:Nat->Oq Nat):V->V
 |.tup vs=>.tup (vs.map (aggO r))
 |v=>aggO r v
def B.renO (r:Nat->Oq Nat):B->B
 |.box cs=>.box (cs.map (aggO r))
 |.row es=>.row es
 |.tab es i v=>.tab es i (aggO r v)
 |.mp l=>.mp l
def pos (id:Nat):List Nat->Oq Nat
 |[]=>none
 |x::l=>if x=id then some 0 else (pos id l).map (·+1)
def dd:List Nat->List Nat
 |[]=>[]
 |x::l=>x::(dd l).filter (λy=>y != x)
def nilC (q:Nat):V->V
 |.c .nilS=>.row q 0
 |.c .zs=>.row q 0
 |v=>v
def nilL (q:Nat):List V->List V
 |[]=>[]
 |v::vs=>nilC q v::nilL (q+1) vs
def nilA (q:Nat):V->V
 |.agg cs=>.agg (nilL q cs)
 |v=>nilC q v
def nilAs (q:Nat):List V->List V
 |[]=>[]
 |v::vs=>nilA q v::nilAs (q+100) vs
def nilT (q:Nat):V->V
 |.tup vs=>.tup (nilAs q vs)
 |v=>nilA q v
def nilB (q:Nat):B->B
 |.box cs=>.box (nilL q cs)
 |.row es=>.row es
 |.tab es i v=>.tab es i (nilC q v)
 |.mp l=>.mp l
def nilH (nid:Nat) (h:Nat->Oq B):Nat->Oq B:=λid=>if id<nid then (h id).map (nilB (nid+200*id+100)) else some (.row [])
def nilSh (nid:Nat) (sh:Nat->Bool):Nat->Bool:=λid=>if id<nid then sh id else false
def reach (h:Nat->Oq B) (vs:List V):List Nat :=
 let i1:=dd (vs.flatMap V.ids)
 let i2:=dd (i1++i1.flatMap λid=>(h id).elim [] B.ids)
 dd (i2++i2.flatMap λid=>(h id).elim [] B.ids)
def canon (live:List Nat) (s:St):St :=
 let t:=λi=>nilA (s.nx+200*i) (s.t i)
 let h:=nilH s.nx s.h
 let l:=reach h (live.map t++s.og.map λid=>.ptr id 0)
 let r:=λid=>pos id l
 {t:=λi=>if i∈live then aggO r (t i) else .any,
  h:=λj=>((l[j]?).bind h).map (B.renO r),
  sh:=λj=>((l[j]?).map (nilSh s.nx s.sh)).getD false,
  nx:=l.length,lr:=λ_=>[],lw:=λ_=>[],og:=s.og.map λid=>(r id).getD 0 }
def topIds:V->List Nat
 |.tup vs=>vs.flatMap V.ids
 |v=>v.ids
def onlyB (K:List Nat) (h:Nat->Oq B):Nat->Oq B:=λid=>if id∈K then h id else none
def isBox:Oq B->Bool
 |some (.box _)=>true
 |some (.mp _)=>true
 |_=>false
def ogK (K lv:List Nat) (s:St):List Nat:=K.filter λid=>(s.h id).isSome&&(s.og.contains id||isBox (s.h id)||(lv.flatMap (λi=>topIds (s.t i))).contains id)
def bkR (og:List Nat) (base:Nat) (so:List Nat) (j:Nat):Nat:=match pos j so with|some q=>og.getD q 0|none=>base+j
def bkH (K og:List Nat) (base:Nat) (s1:St) (h:Nat->Oq B):Nat->Oq B:=λid =>
 if base<=id/\id<base+s1.nx then (if (id - base)∈s1.og then none else (s1.h (id - base)).map (B.renO (λj=>some (bkR og base s1.og j))))
 else if id∈K then (match pos id og with|some q=>(s1.og[q]?).bind λj=>(s1.h j).map (B.renO (λj=>some (bkR og base s1.og j)))|none=>none)
 else h id
def bkS (K og:List Nat) (base:Nat) (s1:St) (sh:Nat->Bool):Nat->Bool:=λid =>
 if base<=id/\id<base+s1.nx then s1.sh (id - base)
 else if id∈K then (match pos id og with|some q=>((s1.og[q]?).map s1.sh).getD false|none=>false)
 else sh id
def heapD (g:List V->St->Oq (V×St)) (args:List V) (N:Nat) (lv:List Nat) (base:Nat) (s:St):Oq (V×(Nat->Oq B)×(Nat->Bool)) :=
 (g args { t:=λ_=>.any,h:=onlyB (reach s.h args) s.h,sh:=s.sh,nx:=N,lr:=λ_=>[],lw:=λ_=>[],og:=ogK (reach s.h args) lv s }).bind λx =>
  if x.2.og.length=(ogK (reach s.h args) lv s).length/\x.2.nx<=8 then
   some (topO (λj=>some (bkR (ogK (reach s.h args) lv s) base x.2.og j)) x.1,bkH (reach s.h args) (ogK (reach s.h args) lv s) base x.2 s.h,bkS (reach s.h args) (ogK (reach s.h args) lv s) base x.2 s.sh)
  else none
def ioOf (ch:FuncId->Oq (List V->St->Oq (V×St))) (r:Operand->V):Op->Oq (FuncId×(List V->St->Oq (V×St))×List V)
 |.call { callee:=.value f,args,.. }=>match r f with
  |.fn g caps=>(bodyOf P (cFn g)).bind λ_=>(ch (cFn g)).map λh=>(cFn g,h,cAr g (args.toList.map r) caps)
  |_=>none
 |_=>none
structure HP where
 call:FuncId->List V->Oq (V×List B)
 io:FuncId->Bool
 ch:FuncId->Oq (List V->St->Oq (V×St))
 lv:Nat->List Nat
 N:Nat
def hp0 (call:FuncId->List V->Oq (V×List B)):HP:=⟨call,λ_=>false,λ_=>none,λ_=>[],0⟩
def isIo (io:FuncId->Bool):Op->Bool
 |.call { callee:=.value (.func f),.. }=>io f
 |.call { callee:=.value (.tmp _),.. }=>io 1000000
 |_=>false
def kindB (io:FuncId->Bool) (ops:Array Oper) (o:Op):Nat:=bif isIo io o then 2 else kindA P ops o
def ev2H (hp:HP) (base:Nat) (o:Op) (s:St):Oq (V×(Nat->Oq B)×(Nat->Bool)) :=
 bif isIo hp.io o then (ioOf P hp.ch (rho s.t) o).bind λz=>heapD z.2.1 z.2.2 hp.N (hp.lv base) base s else ev2 P s.h s.sh (rho s.t) base o
def adrOf:V->List Nat
 |.ptr id _=>[id]
 |.rptr id _ _ _=>[id]
 |_=>[]
def ldAdr (r:Operand->V):Op->List Nat
 |.load _ a=>adrOf (r a)
 |_=>[]
def rowId:V->List Nat
 |.row id _=>[id]
 |_=>[]
def stAdr (io:FuncId->Bool) (ops:Array Oper) (h:Nat->Oq B) (r:Operand->V):Op->List Nat
 |.store _ a _=>adrOf (r a)
 |.call { callee:=.value (.func f),args,.. }=>bif io f then reach h (args.toList.map r) else []
 |.call { callee:=.value (.tmp t),args,.. }=>bif io 1000000 then (match r (.tmp t) with|.fn g caps=>reach h (cAr g (args.toList.map r) caps)|_=>[]) else []
 |.call { callee:=.builtin .append,args,argTypes }=>bif freshA ops (.call { callee:=.builtin .append,args,argTypes }) then [] else (match args.toList with|s::_=>rowId (r s)|_=>[])
 |_=>[]
def logOk (n:Nat) (an:Nat->Nat) (lg:Nat->List Nat) (j:Nat) (as:List Nat):Bool:=as.all λa=>(List.range n).all λi=>!(lg i).contains a||ordB an i j
def opD (hp:HP) (nt:Nat) (ops:Array Oper) (hv:Nat->Oq B) (base:Nat) (o:Oper) (s:St):Oq St :=
 if (o.dst.all (λd=>decide (d<nt)))=true then
  (wantedV ops s.t o).bind λw=>if w then
   match kindB P hp.io ops o.op with
   |0=>(ev0 P (rho s.t) o.op).map λv=>{ s with t:=putD s.t o.dst v }
   |1=>(ev1 P hp.call hv (rho s.t) base o.op).bind λx=>if x.2.1.length<=8 then
      some { s with t:=putD s.t o.dst x.1,h:=addB s.h base x.2.1,sh:=λi=>if i∈x.2.2 then true else s.sh i } else none
   |_=>(ev2H P hp base o.op s).map λx=>{ s with t:=putD s.t o.dst x.1,h:=x.2.1,sh:=x.2.2 }
  else some { s with t:=putD s.t o.dst (.tup []) }
 else none
def stepD (hp:HP) (nt:Nat) (ops:Array Oper) (an:Nat->Nat) (rb j:Nat) (o:Oper) (s:St):Oq St :=
 if (logOk ops.size an s.lw j (ldAdr (rho s.t) o.op)&&logOk ops.size an s.lr j (stAdr hp.io ops s.h (rho s.t) o.op))=true then
  (opD P hp nt ops (visB s.h rb (an j)) (rb+8*j) o s).map λs'=>{ s' with lr:=upd s.lr j (ldAdr (rho s.t) o.op),lw:=upd s.lw j (stAdr hp.io ops s.h (rho s.t) o.op) }
 else none
def isApd (ops:Array Oper) (o:Op):Bool:=match o with
 |.call { callee:=.builtin .append,.. }=>!freshA ops o
 |_=>false
def isWr (io:FuncId->Bool) (ops:Array Oper) (o:Op):Bool:=isSt o||isIo io o||isApd ops o
def freeB (io:FuncId->Bool) (ops:Array Oper) (x y:Oper):Bool :=
 x.apart ops y&&(kindB P io ops x.op==0||kindB P io ops y.op==0||(kindB P io ops x.op==1&&kindB P io ops y.op==1)||(isLd x.op&&isWr io ops y.op)||(isWr io ops x.op&&isLd y.op))
def lvD (io:FuncId->Bool) (lv:Nat->List Nat) (ops:Array Oper) (rb base:Nat):List Nat:=bif isIo io (ops.getD ((base - rb) / 8) default).op then lv ((base - rb) / 8) else []
def drawOk (io:FuncId->Bool) (lv:Nat->List Nat) (ops:Array Oper):Bool :=
 Region.noSelect ops&&((List.range ops.size).all λj=>(ops.getD j default).after.toList.all (λe=>!Region.binds .any e||decide (e.on<j))&&(List.range j).all λi =>
  (anOf ops j).testBit i||freeB P io ops (ops.getD i default) (ops.getD j default)) &&
 (List.range ops.size).all λj=>(lvD io lv ops 0 (8*j)).all λt=>ops.toList.all λo=>o.dst != some t
def runD (hp:HP) (nt:Nat) (ops:Array Oper) (an:Nat->Nat) (rb:Nat):List Nat->St->Oq St
 |[],s=>some s
 |j::js,s=>((ops[j]?).bind λo=>stepD P hp nt ops an rb j o s).bind (runD hp nt ops an rb js)
def runN (call:FuncId->List V->Oq (V×List B)) (ch:FuncId->Oq (List V->St->Oq (V×St))) (lv:Nat->List Nat) (nt:Nat) (ops:Array Oper):List Oper->Nat->Nat->St->Oq St
 |[],_,base,s=>some { s with nx:=base }
 |o::os,j,base,s=>match ioOf P ch (rho s.t) o.op with
  |some (_,g,args)=>if (o.dst.all (λd=>decide (d<nt)))=true then (wantedV ops s.t o).bind λw=>if w then
     (heapD g args base (lv j) base s).bind λx=>runN call ch lv nt ops os (j+1) (base+8) { s with t:=putD s.t o.dst x.1,h:=x.2.1,sh:=x.2.2 }
    else runN call ch lv nt ops os (j+1) (base+8) { s with t:=putD s.t o.dst (.tup []) }
   else none
  |none=>(opD P (hp0 call) nt ops s.h base o s).bind (runN call ch lv nt ops os (j+1) (base+8))
structure CT where
 call:FuncId->List V->Oq (V×List B)
 io:FuncId->Bool
 ch:FuncId->Oq (List V->St->Oq (V×St))
def fstRegion:Code->Oq Nat
 |.region id _ _=>some id
 |.seq a b=>(fstRegion a).or (fstRegion b)
 |.block _ c=>fstRegion c
 |.loop c=>fstRegion c
 |.cond _ a b=>(fstRegion a).or (fstRegion b)
 |.scope c=>fstRegion c
 |_=>none
def shq (live:Nat->List Nat) (c:Code):Bool:=match fstRegion c with
 |some id=>!(live (5000000+id)).isEmpty
 |none=>false
def shareC (h:Nat->Oq B):V->V
 |.row i n=>match h i with
  |some (.row es)=>.c (.sl es)
  |_=>.row i n
 |.c .nilS=>.c (.sl [])
 |.c .ne=>.c (.sl [])
 |.c .zs=>.c (.sl [])
 |x=>x
def shareB (h:Nat->Oq B):Oq B->Oq B
 |some (.box cs)=>some (.box (cs.map (shareC h)))
 |b=>b
def shareS (q:Bool) (s:St):St:=bif q then { s with t:=λi=>shareC s.h (s.t i),h:=λi=>shareB s.h (s.h i),sh:=λi=>bif Nat.blt i s.nx then true else s.sh i } else s
def cutL (live:Nat->List Nat) (b:Code):List Nat:=match fstRegion b with|some id=>live (1000000+id)|none=>[]
def cutS (live:Nat->List Nat) (b:Code) (s:St):St:=match cutL live b with|[]=>s|i::l=>canon (i::l) s
def ioR (live:Nat->List Nat) (id:Nat) (io:FuncId->Bool):FuncId->Bool:=λf=>bif f==1000000 then !(live (4000000+id)).isEmpty else io f
def stepC (live:Nat->List Nat) (call:CT) (nt:Nat) (again:Code->St->Oq (Nat×St)):Code->St->Oq (Nat×St)
 |.skip,s=>some (0,s)
 |.region id ops true,s=>if drawOk P (ioR live id call.io) (λj=>live (3000000+1000*id+j)) ops=true then (runD P ⟨call.call,ioR live id call.io,call.ch,lvD (ioR live id call.io) (λj=>live (3000000+1000*id+j)) ops s.nx,s.nx+8*ops.size⟩ nt ops (anOf ops) s.nx (List.range ops.size) { s with lr:=λ_=>[],lw:=λ_=>[] }).map λs'=>(0,canon (live (2*id+1)) { s' with nx:=s.nx+8*ops.size }) else none
 |.region id ops false,s=>(runN P call.call call.ch (λj=>live (3000000+1000*id+j)) nt ops ops.toList 0 s.nx s).map λs'=>(0,canon (live (2*id+1)) s')
 |.seq a b,s=>(stepC live call nt again a s).bind λx=>if x.1=0 then stepC live call nt again b (cutS live b x.2) else some x
 |.cond c a b,s=>match rho s.t c with|.c (.bool q)=>if q then stepC live call nt again a s else stepC live call nt again b s|_=>none
 |.block id c,s=>(stepC live call nt again c s).map λx=>if x.1=id+2 then (0,x.2) else x
 |.loop c,s=>(stepC live call nt again c (canon (((fstRegion c).map λid=>live (2*id)).getD []) (shareS (shq live c) s))).bind λx=>if x.1=0 then again (.loop c) x.2 else some x
 |.exit id,s=>some (id+2,s)
 |.ret,s=>some (1,s)
 |_,_=>none
def resV (fn:Func) (s:St):Oq (List V) :=
 fn.results.toList.mapM fun
  |.tmp t=>some (s.t t)
  |.cell a t=>loadV P s.h t (s.t a)
def oneOrTup:List V->V
 |[v]=>v
 |vs=>.tup vs
def ownRow (h:Nat->Oq B) (sh:Nat->Bool) (id:Nat):Oq B :=
 if sh id then none else match h id with
  |some (.row es)=>some (.row es)
  |_=>none
def finV (s:St) (vs:List V):Oq (V×List B) :=
 let v:=nilT s.nx (oneOrTup vs)
 let l:=dd (topIds v)
 (l.mapM (ownRow (nilH s.nx s.h) (nilSh s.nx s.sh))).map λbs=>(topO (λid=>pos id l) v,bs)
def cellOk:V->Bool
 |.c _=>true
 |.row _ _=>true
 |.any=>true
 |_=>false
def aggOk:V->Bool
 |.c _=>true
 |.row _ _=>true
 |.agg cs=>cs.all cellOk
 |_=>false
def okRes:V->Bool
 |.tup vs=>vs.all aggOk
 |v=>aggOk v
def finQ (q:Bool) (s:St) (vs:List V):Oq (V×List B):=bif q then (frzAs s.h vs).bind λy=>if okRes (oneOrTup y.1)=true then finV { s with sh:=λi=>if i∈y.2 then true else s.sh i } y.1 else none else finV s vs
def fzL (live:FuncId->Nat->List Nat) (f:FuncId):Bool:=!(live f 2000001).isEmpty
def callD (fz:FuncId->Bool) (X:FuncId->List V->Oq (V×List B)) (ex:FuncId->Nat->Code->St->Oq (Nat×St)) (f:FuncId) (args:List V):Oq (V×List B) :=
 match X f args with
 |some r=>some r
 |none=>(bodyOf P f).bind λfn=>if args.length<=fn.ntmps then fn.body.bind λc =>
  (ex f fn.ntmps c { t:=λi=>args.getD i .any,h:=λ_=>none,sh:=λ_=>false,nx:=0,lr:=λ_=>[],lw:=λ_=>[],og:=[] }).bind λx =>
   if x.1<=1 then (resV P fn x.2).bind λvs=>(finQ (fz f) x.2 vs).bind λy=>if okRes y.1 then some y else none else none
  else none
def endN (vs:List V) (s:St):St:=canon (List.range vs.length) { s with t:=λi=>vs.getD i .any }
def finH (q:Bool) (s:St) (vs:List V):Oq (List V×St):=bif q then (frzAs s.h vs).bind λy=>if okRes (oneOrTup y.1)=true then some (y.1,{ s with sh:=λi=>if i∈y.2 then true else s.sh i }) else none else some (vs,s)
def runH (fz:FuncId->Bool) (ex:FuncId->Nat->Code->St->Oq (Nat×St)) (f:FuncId) (args:List V) (s:St):Oq (V×St) :=
 (bodyOf P f).bind λfn=>if args.length<=fn.ntmps then fn.body.bind λc =>
  (ex f fn.ntmps c (canon (List.range args.length) { t:=λi=>args.getD i .any,h:=s.h,sh:=s.sh,nx:=s.nx,lr:=λ_=>[],lw:=λ_=>[],og:=s.og })).bind λx =>
   if x.1<=1 then (resV P fn x.2).bind λvs=>(finH (fz f) x.2 vs).map λz=>(oneOrTup ((List.range z.1.length).map (endN z.1 z.2).t),endN z.1 z.2) else none
  else none
def hst (a:List V) (s:St):St:={ t:=λi=>a.getD i .any,h:=s.h,sh:=s.sh,nx:=s.nx,lr:=λ_=>[],lw:=λ_=>[],og:=s.og }
def dfOp:List Oper->Oq (Nat×Nat×Nat)
 |[o1,o2]=>match o1.op,o2.op with
  |.makeFunc (.func g) first caps,.defer { callee:=.value (.tmp k),args,.. }=>match first.toList,caps.toList,args.toList with
   |[],[.tmp p],[]=>if o1.dst=some k/\o2.dst=none/\o1.guard=none/\o2.guard=none/\Nat.blt g 1000000=true then some (k,p,g) else none
   |_,_,_=>none
  |_,_=>none
 |_=>none
def headD:Code->Oq (Nat×Nat×Nat×Code)
 |.seq (.region _ ops false) rest=>(dfOp ops.toList).map λx=>(x.1,x.2.1,x.2.2,rest)
 |_=>none
def splitD:Code->Oq (List Code×Nat×Nat×Nat×Code)
 |.seq a b=>match headD b with
  |some x=>some ([a],x)
  |none=>(splitD b).map λx=>(a::x.1,x.2)
 |_=>none
def exL (ex:Code->St->Oq (Nat×St)):List Code->St->Oq (Nat×St)
 |[],s=>some (0,s)
 |a::l,s=>(ex a s).bind λx=>if x.1=0 then exL ex l x.2 else none
def defD (nt k p:Nat) (x:Nat×St):Oq St :=
 if x.1=0 then match x.2.t p,x.2.t k with
  |.ptr id 0,.any=>if k<nt then some { x.2 with og:=x.2.og++[id] } else none
  |_,_=>none
 else none
def lastN:List Nat->Oq Nat
 |[]=>none
 |[x]=>some x
 |_::l=>lastN l
def slotsR (fn:Func):List Nat:=fn.results.toList.map λ|.tmp t=>t|.cell a _=>a
def endD (r:List V->St->Oq (V×St)) (lv:List Nat) (s:St):Oq St :=
 (lastN s.og).bind λid=>(heapD r [.ptr id 0] s.nx lv s.nx { s with og:=s.og.dropLast }).map λy=>{ s with h:=y.2.1,sh:=y.2.2,nx:=s.nx+8,og:=s.og.dropLast }
def runHD (fz:FuncId->Bool) (ex:FuncId->Nat->Code->St->Oq (Nat×St)) (f:FuncId) (args:List V) (s:St):Oq (V×St) :=
 (bodyOf P f).bind λfn=>if args.length<=fn.ntmps then fn.body.bind λc=>(splitD c).bind λd =>
  (exL (ex f fn.ntmps) d.1 (canon (List.range args.length) (hst args s))).bind λx =>
   (defD fn.ntmps d.2.1 d.2.2.1 x).bind λs1=>(ex f fn.ntmps d.2.2.2.2 s1).bind λy =>
    if y.1<=1/\y.2.og.length=s1.og.length then (endD (runH P fz ex d.2.2.2.1) (slotsR fn) y.2).bind λs2=>(resV P fn s2).bind λvs=>(finH (fz f) s2 vs).map λz=>(oneOrTup ((List.range z.1.length).map (endN z.1 z.2).t),endN z.1 z.2)
    else none
  else none
structure XRule:Type 1 where
 n:Nat
 run:(β:Type)->St->(List V×St->Oq β)->Oq β
 ok:∀ (β:Type) (s:St) (k:List V×St->Oq β),run β s k=(run (List V×St) s some).bind k
def runX (R:XRule) (args:List V) (s:St):Oq (V×St) :=
 if args.length=R.n then (R.run (List V×St) (canon (List.range args.length) (hst args s)) some).map λx=>(oneOrTup ((List.range x.1.length).map (endN x.1 x.2).t),endN x.1 x.2) else none
def callH (io df fz:FuncId->Bool) (XH:FuncId->Oq XRule) (ex:FuncId->Nat->Code->St->Oq (Nat×St)) (f:FuncId):Oq (List V->St->Oq (V×St)) :=
 match XH f with
 |some R=>some (runX R)
 |none=>bif io f then some (bif df f then runHD P fz ex f else runH P fz ex f) else none
structure XT:Type 1 where
 c:FuncId->List V->Oq (V×List B)
 h:FuncId->Oq XRule
def ioB (live:FuncId->Nat->List Nat) (f:FuncId):Bool:=!(live f 2000000).isEmpty
def dfB (live:FuncId->Nat->List Nat) (f:FuncId):Bool:=!(live f 6000000).isEmpty
def execD (live:FuncId->Nat->List Nat) (X:XT):Nat->FuncId->Nat->Code->St->Oq (Nat×St)
 |0,_,_,_,_=>none
 |n+1,f,nt,c,s=>stepC P (live f) ⟨callD P (fzL live) X.c (execD live X n),ioB live,callH P (ioB live) (dfB live) (fzL live) X.h (execD live X n)⟩ nt (execD live X n f nt) c s
end
end Go.Proofs.YtmlcmoaonaomfaaGreatDoor
