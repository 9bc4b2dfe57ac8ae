/- The base of the functions that are made by program. -/
import Derived.Test.YtognhcibcocbkaaGreatDoorG
import Derived.Test.YtognhcibcocbkaaGreatDoorDTab
import Derived.Lib.IndexMore
import Derived.Lib.ItoaNum
import Derived.Lib.Join
namespace Go.Proofs.YtognhcibcocbkaaGreatDoor
open Go.RowKit
def cdF (fn:Func):Code:=fn.body.getD .skip
def loopsIn:Code→List Code
 |.loop c=>c::loopsIn c
 |.seq a b=>loopsIn a++loopsIn b
 |.cond _ a b=>loopsIn a++loopsIn b
 |.block _ c=>loopsIn c
 |_=>[]
def q8l (c:Code) (id:Nat):Code:=((loopsIn c).find? fun l=>match fstRegion l with|some i=>i==id|none=>false).getD .skip
def clones:List FuncId:=[ ]
def ixbP (s:ByteArray) (c:Int):Option Int:=some (Lib.indexByte s.data.toList c.toNat.toUInt8)
def itoaP (n:Int):Option ByteArray:=if -9223372036854775808≤n∧n≤9223372036854775807 then some ⟨(Lib.itoa n).toArray⟩ else none
def nvL (s:List UInt8):Nat:=s.foldl (fun n c=>10*n+(c.toNat - 48)) 0
def numP (s:ByteArray) (most:Int):Option (Int×Bool):=if s.size<4294967281∧most≤9223372036854775807 then some (if s.data.toList=Lib.decDigits (nvL s.data.toList)∧(nvL s.data.toList:Int)≤most then ((nvL s.data.toList:Int),true) else (0,false)) else none
def esc:List UInt8→List UInt8
 |[]=>[]
 |c::r=>if c=34∨c=92 then 92::c::esc r else c::esc r
def quoL (s:List UInt8):List UInt8:=34::(esc s++[34])
def quoP (s:ByteArray):Option ByteArray:=if s.size<4294967281 then some ⟨(quoL s.data.toList).toArray⟩ else none
def repP (s:ByteArray) (n:Int):Option ByteArray:=if 0≤n∧n≤1000000∧s.size≤1000000 then some ⟨(List.replicate n.toNat s.data.toList).flatten.toArray⟩ else none
def strsOf:List (List C)→Option (List ByteArray)
 |[]=>some []
 |[.str s]::l=>(strsOf l).map (s::·)
 |_=>none
def joinP (l:List ByteArray) (sep:ByteArray):Option ByteArray:=if (Lib.join (l.map (·.data.toList)) sep.data.toList).length≤140737488355328∧l.length≤140737488355328 then some ⟨(Lib.join (l.map (·.data.toList)) sep.data.toList).toArray⟩ else none
def X0c:FuncId→List V→Option (V×List B):=fun f a=>bif clones.contains f then (match a with|[.c (.sl [])]=>some (.row 0 0,[.row []])|_=>none) else
 bif f==36 then (match a with|[.c (.str s),.c (.int .u8 c)]=>(ixbP s c).map fun b=>(.c (.int .i64 b),[])|_=>none) else
 bif f==95 then (match a with|[.c (.str s),.c (.int .i64 n)]=>(numP s n).map fun b=>(.tup [.c (.int .i64 b.1),.c (.bool b.2)],[])|_=>none) else
 bif f==63 then (match a with|[.c (.str s)]=>(quoP s).map fun b=>(.c (.str b),[])|_=>none) else
 bif f==61 then (match a with|[.c (.str s),.c (.int .i64 n)]=>(repP s n).map fun b=>(.c (.str b),[])|_=>none) else
 bif f==86 then (match a with|[.c (.sl es),.c (.str s)]=>(strsOf es).bind fun l=>(joinP l s).map fun b=>(.c (.str b),[])|_=>none) else
 bif f==66 then (match a with|[.c (.int .i64 n)]=>(itoaP n).map fun b=>(.c (.str b),[])|_=>none) else
 none
def X0h:FuncId→Option XRule:=fun f =>
 none
def X0:XT:=⟨X0c,X0h⟩
def ixb_ca:=qah (vC cStr) (qaj (vC (cInt .u8)))
def ixb_cr:Cod (V×List B) Int:=cFstU (cPair (vC (cInt .i64)) qai)
theorem qa4 (x:(ByteArray×Int)) (r:Int) (h:ixbP x.1 x.2=some r):Call Tryz.prog lv X0 36 (ixb_ca.enc x)=some (ixb_cr.enc r):=by
 have:X0.c 36 (ixb_ca.enc x)=some (ixb_cr.enc r):=by
  show (ixbP x.1 x.2).map (fun b=>((V.c (.int .i64 b),[]):V×List B))=_
  rw [h]
  rfl
 unfold Call callD
 rw [this]
noncomputable def ixb_e:=entS Tryz.prog lv X0 36 [] ixb_ca ixb_cr (fun x=>ixbP x.1 x.2) qa4
def qa0:=qaj (vC (cInt .i64))
def qa3:Cod (V×List B) ByteArray:=cFstU (cPair (vC cStr) qai)
theorem qa1 (x:Int) (r:ByteArray) (h:itoaP x=some r):Call Tryz.prog lv X0 66 (qa0.enc x)=some (qa3.enc r):=by
 have:X0.c 66 (qa0.enc x)=some (qa3.enc r):=by
  show (itoaP x).map (fun b=>((V.c (.str b),[]):V×List B))=_
  rw [h]
  rfl
 unfold Call callD
 rw [this]
noncomputable def itoa_e:=entS Tryz.prog lv X0 66 [] qa0 qa3 (fun x=>itoaP x) qa1
def qcx:=qah (vC cStr) (qaj (vC (cInt .i64)))
def qcz:Cod (V×List B) (Int×Bool):=cFstU (cPair (vTup (qah (vC (cInt .i64)) (qaj (vC cBool)))) qai)
theorem qcy (x:(ByteArray×Int)) (r:(Int×Bool)) (h:numP x.1 x.2=some r):Call Tryz.prog lv X0 95 (qcx.enc x)=some (qcz.enc r):=by
 have:X0.c 95 (qcx.enc x)=some (qcz.enc r):=by
  show (numP x.1 x.2).map (fun b=>((.tup [.c (.int .i64 b.1),.c (.bool b.2)],[]):V×List B))=_
  rw [h]
  rfl
 unfold Call callD
 rw [this]
noncomputable def numb_e:=entS Tryz.prog lv X0 95 [] qcx qcz (fun x=>numP x.1 x.2) qcy
def qfq:=qaj (vC cStr)
def qfs:Cod (V×List B) ByteArray:=cFstU (cPair (vC cStr) qai)
theorem qfr (x:ByteArray) (r:ByteArray) (h:quoP x=some r):Call Tryz.prog lv X0 63 (qfq.enc x)=some (qfs.enc r):=by
 have:X0.c 63 (qfq.enc x)=some (qfs.enc r):=by
  show (quoP x).map (fun b=>((.c (.str b),[]):V×List B))=_
  rw [h]
  rfl
 unfold Call callD
 rw [this]
noncomputable def quot_e:=entS Tryz.prog lv X0 63 [] qfq qfs (fun x=>quoP x) qfr
def qgi:=qah (vC cStr) (qaj (vC (cInt .i64)))
def qgk:Cod (V×List B) ByteArray:=cFstU (cPair (vC cStr) qai)
theorem qgj (x:(ByteArray×Int)) (r:ByteArray) (h:repP x.1 x.2=some r):Call Tryz.prog lv X0 61 (qgi.enc x)=some (qgk.enc r):=by
 have:X0.c 61 (qgi.enc x)=some (qgk.enc r):=by
  show (repP x.1 x.2).map (fun b=>((.c (.str b),[]):V×List B))=_
  rw [h]
  rfl
 unfold Call callD
 rw [this]
noncomputable def repe_e:=entS Tryz.prog lv X0 61 [] qgi qgk (fun x=>repP x.1 x.2) qgj
noncomputable def tab0:List (Ent Tryz.prog lv X0) :=
 ixb_e ::
 itoa_e ::
 numb_e ::
 quot_e ::
 repe_e ::
 []
theorem EC.getD_lt {τ:Type} (e:EC τ) (xs:List τ) {n:Nat} (h:n<xs.length):(e.encL xs).getD n []=e.enc xs[n]:=by
 simp [EC.encL,List.getD_eq_getElem?_getD,h]
theorem EC.getD_ge {τ:Type} (e:EC τ) (xs:List τ) {n:Nat} (h:xs.length≤n):(e.encL xs).getD n []=[]:=by
 simp [EC.encL,List.getD_eq_getElem?_getD,h]
@[simp] theorem EC.encL_length {τ:Type} (e:EC τ) (xs:List τ):(e.encL xs).length=xs.length:=by simp [EC.encL]
def segsIn:Code→List Code
 |.loop c=>segsIn c
 |.seq a b=>b::segsIn a++segsIn b
 |.cond _ a b=>segsIn a++segsIn b
 |.block _ c=>segsIn c
 |_=>[]
def q8m (c:Code) (id:Nat):Code:=((segsIn c).find? fun l=>match fstRegion l with|some i=>i==id|none=>false).getD .skip
end Go.Proofs.YtognhcibcocbkaaGreatDoor
