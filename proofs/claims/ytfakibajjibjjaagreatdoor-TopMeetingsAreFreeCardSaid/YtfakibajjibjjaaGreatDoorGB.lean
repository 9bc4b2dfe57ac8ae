/- The base of the functions that are made by program. -/
import Derived.Test.YtfakibajjibjjaaGreatDoorG
import Derived.Test.YtfakibajjibjjaaGreatDoorDTab
import Derived.Lib.IndexMore
import Derived.Lib.ItoaNum
import Derived.Lib.Join
namespace Go.Proofs.YtfakibajjibjjaaGreatDoor
open Go.RowKit
def cdF (fn:Func):Code:=fn.body.getD .skip
def loopsIn:Code→List Code
 |.loop c=>c::loopsIn c
 |.seq a b=>loopsIn a++loopsIn b
 |.cond _ a b=>loopsIn a++loopsIn b
 |.block _ c=>loopsIn c
 |_=>[]
def qix (c:Code) (id:Nat):Code:=((loopsIn c).find? fun l=>match fstRegion l with|some i=>i==id|none=>false).getD .skip
def clones:List FuncId:=[29,51,72]
def contP (s t:ByteArray):Option Bool:=if s.size<4294967281 then some (Lib.contains s.data.toList t.data.toList) else none
def cutP (s t:ByteArray):Option (ByteArray×ByteArray×Bool):=if s.size<4294967281 then some (⟨(Lib.cut s.data.toList t.data.toList).1.toArray⟩,⟨(Lib.cut s.data.toList t.data.toList).2.1.toArray⟩,(Lib.cut s.data.toList t.data.toList).2.2) else none
def ixbP (s:ByteArray) (c:Int):Option Int:=some (Lib.indexByte s.data.toList c.toNat.toUInt8)
def crlf0:List UInt8:=[13,10,0]
def canyP (s t:ByteArray):Option Bool:=if s.size<4294967281∧t.data.toList=crlf0 then some (s.data.toList.any fun b=>crlf0.contains b) else none
def itoaP (n:Int):Option ByteArray:=if -9223372036854775808≤n∧n≤9223372036854775807 then some ⟨(Lib.itoa n).toArray⟩ else none
def getM (l:List (ByteArray×ByteArray)) (k:List UInt8):List UInt8:=((l.find? fun p=>p.1.data.toList==k).map fun p=>p.2.data.toList).getD []
def expF (l:List (ByteArray×ByteArray)):Nat→List UInt8→List UInt8→Option (List UInt8)
 |0,_,_=>none
 |n+1,s,out =>
  if (Lib.cut s [36,123]).2.2=false∨(Lib.cut (Lib.cut s [36,123]).2.1 [125]).2.2=false then (if out.length+s.length≤140737488355328 then some (out++s) else none)
  else if out.length+((Lib.cut s [36,123]).1.length+(getM l (Lib.cut (Lib.cut s [36,123]).2.1 [125]).1).length)≤140737488355328 then
   expF l n (Lib.cut (Lib.cut s [36,123]).2.1 [125]).2.1 (out++((Lib.cut s [36,123]).1++getM l (Lib.cut (Lib.cut s [36,123]).2.1 [125]).1))
  else none
def expP (l:List (ByteArray×ByteArray)) (s:ByteArray):Option ByteArray:=if s.size<4294967281 then (expF l (s.size+1) s.data.toList []).map fun o=>⟨(o.take 4000).toArray⟩ else none
def digP (k:ByteArray):Bool:=match k.data.toList with
 |b::_=>decide (48≤b.toNat)&&decide (b.toNat≤57)
 |[]=>false
def delP (l:List (ByteArray×ByteArray)):Option (List (ByteArray×ByteArray)):=if l.all (fun p=>decide (p.1.size≠0))=true then some (l.filter fun p=>!digP p.1) else none
def nvL (s:List UInt8):Nat:=s.foldl (fun n c=>10*n+(c.toNat - 48)) 0
def numP (s:ByteArray) (most:Int):Option (Int×Bool):=if s.size<4294967281∧most≤9223372036854775807 then some (if s.data.toList=Lib.decDigits (nvL s.data.toList)∧(nvL s.data.toList:Int)≤most then ((nvL s.data.toList:Int),true) else (0,false)) else none
def repP (s:ByteArray) (n:Int):Option ByteArray:=if 0≤n∧n≤1000000∧s.size≤1000000 then some ⟨(List.replicate n.toNat s.data.toList).flatten.toArray⟩ else none
def strsOf:List (List C)→Option (List ByteArray)
 |[]=>some []
 |[.str s]::l=>(strsOf l).map (s::·)
 |_=>none
def joinP (l:List ByteArray) (sep:ByteArray):Option ByteArray:=if (Lib.join (l.map (·.data.toList)) sep.data.toList).length≤140737488355328∧l.length≤140737488355328 then some ⟨(Lib.join (l.map (·.data.toList)) sep.data.toList).toArray⟩ else none
def isHi:List (List C)→Bool
 |[[.int .u8 a],[.int .u8 b],[.int .u8 c],[.int .u8 d]]=>a==104&&(b==105&&(c==13&&d==10))
 |_=>false
def bodP (es:List (List C)):Option (List (List C)):=bif isHi es then some es else none
def fldB:List C→Bool
 |[.str _,.str _]=>true
 |_=>false
def catL:List (List C)→Option (List (List C))
 |[]=>some []
 |[.sl xs]::r=>if xs.all fldB=true then (catL r).map (xs++·) else none
 |_=>none
def catP (es:List (List C)):Option (List (List C)):=(catL es).bind fun r=>if r.length≤1000000 then some r else none
def X0c:FuncId→List V→Option (V×List B):=fun f a=>bif clones.contains f then (match a with|[.c (.sl [])]=>some (.row 0 0,[.row []])|_=>none) else
 bif f==232 then (match a with|[.c (.str s),.c (.str t)]=>(contP s t).map fun b=>(.c (.bool b),[])|_=>none) else
 bif f==170 then (match a with|[.c (.str s),.c (.str t)]=>(cutP s t).map fun b=>(.tup [.c (.str b.1),.c (.str b.2.1),.c (.bool b.2.2)],[])|_=>none) else
 bif f==73 then (match a with|[.c (.str s),.c (.int .u8 c)]=>(ixbP s c).map fun b=>(.c (.int .i64 b),[])|_=>none) else
 bif f==221 then (match a with|[.c (.str s),.c (.str t)]=>(canyP s t).map fun b=>(.c (.bool b),[])|_=>none) else
 bif f==202 then (match a with|[.c (.str s),.c (.int .i64 n)]=>(numP s n).map fun b=>(.tup [.c (.int .i64 b.1),.c (.bool b.2)],[])|_=>none) else
 bif f==149 then (match a with|[.c (.str s),.c (.int .i64 n)]=>(repP s n).map fun b=>(.c (.str b),[])|_=>none) else
 bif f==68 then (match a with|[.c (.sl es),.c (.str s)]=>(strsOf es).bind fun l=>(joinP l s).map fun b=>(.c (.str b),[])|_=>none) else
 bif f==103 then (match a with|[.c (.sl es)]=>(bodP es).map fun r=>(.c (.sl r),[])|_=>none) else
 bif f==71 then (match a with|[.c (.sl es)]=>(catP es).map fun r=>(.row 0 r.length,[.row r])|_=>none) else
 bif f==210 then (match a with|[.c (.int .i64 n)]=>(itoaP n).map fun b=>(.c (.str b),[])|_=>none) else
 none
def expX:XRule where
 n:=2
 run _ s k:=match s.t 0,s.t 1 with
  |.ptr id 0,.c (.str a)=>match s.h id with
   |some (.box cs)=>match cs.getD 6 .any with
    |.mp j=>match s.h j with
     |some (.mp l)=>(expP l a).bind fun r=>k ([.c (.str r)],s)
     |_=>none
    |_=>none
   |_=>none
  |_,_=>none
 ok β s k:=by
  split
  ·split
   ·split
    ·split
     ·cases expP _ _ <;> rfl
     ·rfl
    ·rfl
   ·rfl
  ·rfl
def delX (clo:Nat):XRule where
 n:=2
 run _ s k:=match s.t 0,s.t 1 with
  |.mp j,.fn f []=>bif f==clo then (match s.h j with
   |some (.mp l)=>(delP l).bind fun l'=>k ([],{ s with h:=upd s.h j (some (.mp l')) })
   |_=>none) else none
  |_,_=>none
 ok β s k:=by
  split
  ·rename_i f _ _
   cases f==clo with
   |false=>rfl
   |true =>
    simp only [cond_true]
    split
    ·cases delP _ <;> rfl
    ·rfl
  ·rfl
theorem qis {α β:Type} (q:Bool) (a:Option α) (k:α→Option β):(gdE q a).bind k=gdE q (a.bind k):=by cases q <;> rfl
def intB:List C→Bool
 |[.int .i64 _]=>true
 |_=>false
def intE:List C→Int
 |[.int .i64 n]=>n
 |_=>0
def encI1 (n:Int):List C:=[.int .i64 n]
def leI (x y:Int):Bool:=decide (x≤y)
def srtL (es:List (List C)):List (List C):=((es.map intE).mergeSort leI).map encI1
def srtX:XRule where
 n:=1
 run _ s k:=match s.t 0 with
  |.row id _=>match s.h id with
   |some (.row es)=>bif s.sh id then none else gdE (es.all intB&&decide (es.length≤1000000)) (k ([],{ s with h:=upd s.h id (some (.row (srtL es))) }))
   |_=>none
  |_=>none
 ok β s k:=by
  split
  ·split
   ·cases s.sh _ with
    |true=>rfl
    |false=>simp only [cond_false,qis,Option.bind_some]
   ·rfl
  ·rfl
def X0h:FuncId→Option XRule:=fun f =>
 bif f==93 then some srtX else
 bif f==122 then some expX else
 bif f==208 then some (delX 209) else
 none
def X0:XT:=⟨X0c,X0h⟩
def qaq:=qni (vC cStr) (qnk (vC cStr))
def qat:Cod (V×List B) Bool:=cFstU (cPair (vC cBool) qnj)
theorem qar (x:(ByteArray×ByteArray)) (r:Bool) (h:contP x.1 x.2=some r):Call Tryz.prog lv X0 232 (qaq.enc x)=some (qat.enc r):=by
 have:X0.c 232 (qaq.enc x)=some (qat.enc r):=by
  show (contP x.1 x.2).map (fun b=>((V.c (.bool b),[]):V×List B))=_
  rw [h]
  rfl
 unfold Call callD
 rw [this]
noncomputable def cont_e:=entS Tryz.prog lv X0 232 [] qaq qat (fun x=>contP x.1 x.2) qar
def qb3:=qni (vC cStr) (qnk (vC cStr))
def qb5:Cod (V×List B) (ByteArray×ByteArray×Bool):=cFstU (cPair (vTup (qni (vC cStr) (qni (vC cStr) (qnk (vC cBool))))) qnj)
theorem qb4 (x:(ByteArray×ByteArray)) (r:(ByteArray×ByteArray×Bool)) (h:cutP x.1 x.2=some r):Call Tryz.prog lv X0 170 (qb3.enc x)=some (qb5.enc r):=by
 have:X0.c 170 (qb3.enc x)=some (qb5.enc r):=by
  show (cutP x.1 x.2).map (fun b=>((V.tup [.c (.str b.1),.c (.str b.2.1),.c (.bool b.2.2)],[]):V×List B))=_
  rw [h]
  rfl
 unfold Call callD
 rw [this]
noncomputable def cutf_e:=entS Tryz.prog lv X0 170 [] qb3 qb5 (fun x=>cutP x.1 x.2) qb4
def ixb_ca:=qni (vC cStr) (qnk (vC (cInt .u8)))
def ixb_cr:Cod (V×List B) Int:=cFstU (cPair (vC (cInt .i64)) qnj)
theorem qmz (x:(ByteArray×Int)) (r:Int) (h:ixbP x.1 x.2=some r):Call Tryz.prog lv X0 73 (ixb_ca.enc x)=some (ixb_cr.enc r):=by
 have:X0.c 73 (ixb_ca.enc x)=some (ixb_cr.enc r):=by
  show (ixbP x.1 x.2).map (fun b=>((V.c (.int .i64 b),[]):V×List B))=_
  rw [h]
  rfl
 unfold Call callD
 rw [this]
noncomputable def ixb_e:=entS Tryz.prog lv X0 73 [] ixb_ca ixb_cr (fun x=>ixbP x.1 x.2) qmz
def q8c:=qni (vC cStr) (qnk (vC cStr))
def q8f:Cod (V×List B) Bool:=cFstU (cPair (vC cBool) qnj)
theorem q8d (x:(ByteArray×ByteArray)) (r:Bool) (h:canyP x.1 x.2=some r):Call Tryz.prog lv X0 221 (q8c.enc x)=some (q8f.enc r):=by
 have:X0.c 221 (q8c.enc x)=some (q8f.enc r):=by
  show (canyP x.1 x.2).map (fun b=>((V.c (.bool b),[]):V×List B))=_
  rw [h]
  rfl
 unfold Call callD
 rw [this]
noncomputable def cany_e:=entS Tryz.prog lv X0 221 [] q8c q8f (fun x=>canyP x.1 x.2) q8d
def qmv:=qnk (vC (cInt .i64))
def qmy:Cod (V×List B) ByteArray:=cFstU (cPair (vC cStr) qnj)
theorem qmw (x:Int) (r:ByteArray) (h:itoaP x=some r):Call Tryz.prog lv X0 210 (qmv.enc x)=some (qmy.enc r):=by
 have:X0.c 210 (qmv.enc x)=some (qmy.enc r):=by
  show (itoaP x).map (fun b=>((V.c (.str b),[]):V×List B))=_
  rw [h]
  rfl
 unfold Call callD
 rw [this]
noncomputable def itoa_e:=entS Tryz.prog lv X0 210 [] qmv qmy (fun x=>itoaP x) qmw
def qt4:=qni (vC cStr) (qnk (vC (cInt .i64)))
def qt6:Cod (V×List B) (Int×Bool):=cFstU (cPair (vTup (qni (vC (cInt .i64)) (qnk (vC cBool)))) qnj)
theorem qt5 (x:(ByteArray×Int)) (r:(Int×Bool)) (h:numP x.1 x.2=some r):Call Tryz.prog lv X0 202 (qt4.enc x)=some (qt6.enc r):=by
 have:X0.c 202 (qt4.enc x)=some (qt6.enc r):=by
  show (numP x.1 x.2).map (fun b=>((.tup [.c (.int .i64 b.1),.c (.bool b.2)],[]):V×List B))=_
  rw [h]
  rfl
 unfold Call callD
 rw [this]
noncomputable def numb_e:=entS Tryz.prog lv X0 202 [] qt4 qt6 (fun x=>numP x.1 x.2) qt5
def qv1:=qni (vC cStr) (qnk (vC (cInt .i64)))
def qv3:Cod (V×List B) ByteArray:=cFstU (cPair (vC cStr) qnj)
theorem qv2 (x:(ByteArray×Int)) (r:ByteArray) (h:repP x.1 x.2=some r):Call Tryz.prog lv X0 149 (qv1.enc x)=some (qv3.enc r):=by
 have:X0.c 149 (qv1.enc x)=some (qv3.enc r):=by
  show (repP x.1 x.2).map (fun b=>((.c (.str b),[]):V×List B))=_
  rw [h]
  rfl
 unfold Call callD
 rw [this]
noncomputable def repe_e:=entS Tryz.prog lv X0 149 [] qv1 qv3 (fun x=>repP x.1 x.2) qv2
noncomputable def tab0:List (Ent Tryz.prog lv X0) :=
 cont_e ::
 cutf_e ::
 ixb_e ::
 cany_e ::
 itoa_e ::
 numb_e ::
 repe_e ::
 []
theorem EC.getD_lt {τ:Type} (e:EC τ) (xs:List τ) {n:Nat} (h:n<xs.length):(e.encL xs).getD n []=e.enc xs[n]:=by
 simp [EC.encL,List.getD_eq_getElem?_getD,h]
theorem EC.getD_ge {τ:Type} (e:EC τ) (xs:List τ) {n:Nat} (h:xs.length≤n):(e.encL xs).getD n []=[]:=by
 simp [EC.encL,List.getD_eq_getElem?_getD,h]
@[simp] theorem EC.encL_length {τ:Type} (e:EC τ) (xs:List τ):(e.encL xs).length=xs.length:=by simp [EC.encL]
end Go.Proofs.YtfakibajjibjjaaGreatDoor
