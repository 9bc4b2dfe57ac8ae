/- The base of the functions that are made by program. -/
import Derived.Test.YtokahibbkdbndaaGreatDoorG
import Derived.Test.YtokahibbkdbndaaGreatDoorDTab
import Derived.Lib.IndexMore
namespace Go.Proofs.YtokahibbkdbndaaGreatDoor
open Go.RowKit
def cdF (fn:Func):Code:=fn.body.getD .skip
def loopsIn:Code→List Code
 |.loop c=>c::loopsIn c
 |.seq a b=>loopsIn a++loopsIn b
 |.cond _ a b=>loopsIn a++loopsIn b
 |.block _ c=>loopsIn c
 |_=>[]
def qnb (c:Code) (id:Nat):Code:=((loopsIn c).find? fun l=>match fstRegion l with|some i=>i==id|none=>false).getD .skip
def clones:List FuncId:=[ ]
def contP (s t:ByteArray):Option Bool:=if s.size<4294967281 then some (Lib.contains s.data.toList t.data.toList) else none
def cutP (s t:ByteArray):Option (ByteArray×ByteArray×Bool):=if s.size<4294967281 then some (⟨(Lib.cut s.data.toList t.data.toList).1.toArray⟩,⟨(Lib.cut s.data.toList t.data.toList).2.1.toArray⟩,(Lib.cut s.data.toList t.data.toList).2.2) else none
def ixbP (s:ByteArray) (c:Int):Option Int:=some (Lib.indexByte s.data.toList c.toNat.toUInt8)
def crlf0:List UInt8:=[13,10,0]
def canyP (s t:ByteArray):Option Bool:=if s.size<4294967281∧t.data.toList=crlf0 then some (s.data.toList.any fun b=>crlf0.contains b) else none
def itoaP (n:Int):Option ByteArray:=if -9223372036854775808≤n∧n≤9223372036854775807 then some ⟨(Lib.itoa n).toArray⟩ else none
def getM (l:List (ByteArray×ByteArray)) (k:List UInt8):List UInt8:=((l.find? fun p=>p.1.data.toList==k).map fun p=>p.2.data.toList).getD []
def expF (l:List (ByteArray×ByteArray)):Nat→List UInt8→List UInt8→Option (List UInt8)
 |0,_,_=>none
 |n+1,s,out =>
  if (Lib.cut s [36,123]).2.2=false∨(Lib.cut (Lib.cut s [36,123]).2.1 [125]).2.2=false then (if out.length+s.length≤140737488355328 then some (out++s) else none)
  else if out.length+((Lib.cut s [36,123]).1.length+(getM l (Lib.cut (Lib.cut s [36,123]).2.1 [125]).1).length)≤140737488355328 then
   expF l n (Lib.cut (Lib.cut s [36,123]).2.1 [125]).2.1 (out++((Lib.cut s [36,123]).1++getM l (Lib.cut (Lib.cut s [36,123]).2.1 [125]).1))
  else none
def expP (l:List (ByteArray×ByteArray)) (s:ByteArray):Option ByteArray:=if s.size<4294967281 then (expF l (s.size+1) s.data.toList []).map fun o=>⟨(o.take 4000).toArray⟩ else none
def digP (k:ByteArray):Bool:=match k.data.toList with
 |b::_=>decide (48≤b.toNat)&&decide (b.toNat≤57)
 |[]=>false
def delP (l:List (ByteArray×ByteArray)):Option (List (ByteArray×ByteArray)):=if l.all (fun p=>decide (p.1.size≠0))=true then some (l.filter fun p=>!digP p.1) else none
def X0c:FuncId→List V→Option (V×List B):=fun f a=>bif clones.contains f then (match a with|[.c (.sl [])]=>some (.row 0 0,[.row []])|_=>none) else
 bif f==143 then (match a with|[.c (.str s),.c (.str t)]=>(contP s t).map fun b=>(.c (.bool b),[])|_=>none) else
 bif f==105 then (match a with|[.c (.str s),.c (.str t)]=>(cutP s t).map fun b=>(.tup [.c (.str b.1),.c (.str b.2.1),.c (.bool b.2.2)],[])|_=>none) else
 bif f==112 then (match a with|[.c (.str s),.c (.int .u8 c)]=>(ixbP s c).map fun b=>(.c (.int .i64 b),[])|_=>none) else
 bif f==164 then (match a with|[.c (.str s),.c (.str t)]=>(canyP s t).map fun b=>(.c (.bool b),[])|_=>none) else
 bif f==134 then (match a with|[.c (.int .i64 n)]=>(itoaP n).map fun b=>(.c (.str b),[])|_=>none) else
 none
def expX:XRule where
 n:=2
 run _ s k:=match s.t 0,s.t 1 with
  |.ptr id 0,.c (.str a)=>match s.h id with
   |some (.box cs)=>match cs.getD 6 .any with
    |.mp j=>match s.h j with
     |some (.mp l)=>(expP l a).bind fun r=>k ([.c (.str r)],s)
     |_=>none
    |_=>none
   |_=>none
  |_,_=>none
 ok β s k:=by
  split
  ·split
   ·split
    ·split
     ·cases expP _ _ <;> rfl
     ·rfl
    ·rfl
   ·rfl
  ·rfl
def delX (clo:Nat):XRule where
 n:=2
 run _ s k:=match s.t 0,s.t 1 with
  |.mp j,.fn f []=>bif f==clo then (match s.h j with
   |some (.mp l)=>(delP l).bind fun l'=>k ([],{ s with h:=upd s.h j (some (.mp l')) })
   |_=>none) else none
  |_,_=>none
 ok β s k:=by
  split
  ·rename_i f _ _
   cases f==clo with
   |false=>rfl
   |true =>
    simp only [cond_true]
    split
    ·cases delP _ <;> rfl
    ·rfl
  ·rfl
def X0h:FuncId→Option XRule:=fun f =>
 bif f==81 then some expX else
 bif f==132 then some (delX 133) else
 none
def X0:XT:=⟨X0c,X0h⟩
def q97:=qrd (vC cStr) (qrf (vC cStr))
def q9a:Cod (V×List B) Bool:=cFstU (cPair (vC cBool) qre)
theorem q98 (x:(ByteArray×ByteArray)) (r:Bool) (h:contP x.1 x.2=some r):Call Tryz.prog lv X0 143 (q97.enc x)=some (q9a.enc r):=by
 have:X0.c 143 (q97.enc x)=some (q9a.enc r):=by
  show (contP x.1 x.2).map (fun b=>((V.c (.bool b),[]):V×List B))=_
  rw [h]
  rfl
 unfold Call callD
 rw [this]
noncomputable def cont_e:=entS Tryz.prog lv X0 143 [] q97 q9a (fun x=>contP x.1 x.2) q98
def q9p:=qrd (vC cStr) (qrf (vC cStr))
def q9r:Cod (V×List B) (ByteArray×ByteArray×Bool):=cFstU (cPair (vTup (qrd (vC cStr) (qrd (vC cStr) (qrf (vC cBool))))) qre)
theorem q9q (x:(ByteArray×ByteArray)) (r:(ByteArray×ByteArray×Bool)) (h:cutP x.1 x.2=some r):Call Tryz.prog lv X0 105 (q9p.enc x)=some (q9r.enc r):=by
 have:X0.c 105 (q9p.enc x)=some (q9r.enc r):=by
  show (cutP x.1 x.2).map (fun b=>((V.tup [.c (.str b.1),.c (.str b.2.1),.c (.bool b.2.2)],[]):V×List B))=_
  rw [h]
  rfl
 unfold Call callD
 rw [this]
noncomputable def cutf_e:=entS Tryz.prog lv X0 105 [] q9p q9r (fun x=>cutP x.1 x.2) q9q
def ixb_ca:=qrd (vC cStr) (qrf (vC (cInt .u8)))
def ixb_cr:Cod (V×List B) Int:=cFstU (cPair (vC (cInt .i64)) qre)
theorem qr2 (x:(ByteArray×Int)) (r:Int) (h:ixbP x.1 x.2=some r):Call Tryz.prog lv X0 112 (ixb_ca.enc x)=some (ixb_cr.enc r):=by
 have:X0.c 112 (ixb_ca.enc x)=some (ixb_cr.enc r):=by
  show (ixbP x.1 x.2).map (fun b=>((V.c (.int .i64 b),[]):V×List B))=_
  rw [h]
  rfl
 unfold Call callD
 rw [this]
noncomputable def ixb_e:=entS Tryz.prog lv X0 112 [] ixb_ca ixb_cr (fun x=>ixbP x.1 x.2) qr2
def q8o:=qrd (vC cStr) (qrf (vC cStr))
def q8r:Cod (V×List B) Bool:=cFstU (cPair (vC cBool) qre)
theorem q8p (x:(ByteArray×ByteArray)) (r:Bool) (h:canyP x.1 x.2=some r):Call Tryz.prog lv X0 164 (q8o.enc x)=some (q8r.enc r):=by
 have:X0.c 164 (q8o.enc x)=some (q8r.enc r):=by
  show (canyP x.1 x.2).map (fun b=>((V.c (.bool b),[]):V×List B))=_
  rw [h]
  rfl
 unfold Call callD
 rw [this]
noncomputable def cany_e:=entS Tryz.prog lv X0 164 [] q8o q8r (fun x=>canyP x.1 x.2) q8p
def qqx:=qrf (vC (cInt .i64))
def qr0:Cod (V×List B) ByteArray:=cFstU (cPair (vC cStr) qre)
theorem qqy (x:Int) (r:ByteArray) (h:itoaP x=some r):Call Tryz.prog lv X0 134 (qqx.enc x)=some (qr0.enc r):=by
 have:X0.c 134 (qqx.enc x)=some (qr0.enc r):=by
  show (itoaP x).map (fun b=>((V.c (.str b),[]):V×List B))=_
  rw [h]
  rfl
 unfold Call callD
 rw [this]
noncomputable def itoa_e:=entS Tryz.prog lv X0 134 [] qqx qr0 (fun x=>itoaP x) qqy
noncomputable def tab0:List (Ent Tryz.prog lv X0) :=
 cont_e ::
 cutf_e ::
 ixb_e ::
 cany_e ::
 itoa_e ::
 []
theorem EC.getD_lt {τ:Type} (e:EC τ) (xs:List τ) {n:Nat} (h:n<xs.length):(e.encL xs).getD n []=e.enc xs[n]:=by
 simp [EC.encL,List.getD_eq_getElem?_getD,h]
theorem EC.getD_ge {τ:Type} (e:EC τ) (xs:List τ) {n:Nat} (h:xs.length≤n):(e.encL xs).getD n []=[]:=by
 simp [EC.encL,List.getD_eq_getElem?_getD,h]
@[simp] theorem EC.encL_length {τ:Type} (e:EC τ) (xs:List τ):(e.encL xs).length=xs.length:=by simp [EC.encL]
def segsIn:Code→List Code
 |.loop c=>segsIn c
 |.seq a b=>b::segsIn a++segsIn b
 |.cond _ a b=>segsIn a++segsIn b
 |.block _ c=>segsIn c
 |_=>[]
def qni (c:Code) (id:Nat):Code:=((segsIn c).find? fun l=>match fstRegion l with|some i=>i==id|none=>false).getD .skip
end Go.Proofs.YtokahibbkdbndaaGreatDoor
