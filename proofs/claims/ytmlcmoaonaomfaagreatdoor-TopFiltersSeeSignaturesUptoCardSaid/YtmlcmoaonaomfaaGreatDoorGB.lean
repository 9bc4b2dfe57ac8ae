/- The base of the functions that are made by program. -/
import Derived.Test.YtmlcmoaonaomfaaGreatDoorG
import Derived.Test.YtmlcmoaonaomfaaGreatDoorDTab
import Derived.Lib.IndexMore
import Derived.Lib.ItoaNum
import Derived.Lib.Join
namespace Go.Proofs.YtmlcmoaonaomfaaGreatDoor
open Go.RowKit
def cdF (fn:Func):Code:=fn.body.getD .skip
def loopsIn:Code->List Code
 |.loop c=>c::loopsIn c
 |.seq a b=>loopsIn a++loopsIn b
 |.cond _ a b=>loopsIn a++loopsIn b
 |.block _ c=>loopsIn c
 |_=>[]
def qk8 (c:Code) (id:Nat):Code:=((loopsIn c).find? λl=>match fstRegion l with|some i=>i==id|none=>false).getD .skip
def clones:List FuncId:=[54]
def contP (s t:BA):Oq Bool:=if s.size<4294967281 then some (Lib.contains s.data.toList t.data.toList) else none
def cutP (s t:BA):Oq (BA×BA×Bool):=if s.size<4294967281 then some (⟨(Lib.cut s.data.toList t.data.toList).1.toArray⟩,⟨(Lib.cut s.data.toList t.data.toList).2.1.toArray⟩,(Lib.cut s.data.toList t.data.toList).2.2) else none
def ixbP (s:BA) (c:Int):Oq Int:=some (Lib.indexByte s.data.toList c.toNat.toUInt8)
def crlf0:List UInt8:=[13,10,0]
def canyP (s t:BA):Oq Bool:=if s.size<4294967281/\t.data.toList=crlf0 then some (s.data.toList.any λb=>crlf0.contains b) else none
def itoaP (n:Int):Oq BA:=if -9223372036854775808<=n/\n<=9223372036854775807 then some ⟨(Lib.itoa n).toArray⟩ else none
def getM (l:List (BA×BA)) (k:List UInt8):List UInt8:=((l.find? λp=>p.1.data.toList==k).map λp=>p.2.data.toList).getD []
def expF (l:List (BA×BA)):Nat->List UInt8->List UInt8->Oq (List UInt8)
 |0,_,_=>none
 |n+1,s,out =>
  if (Lib.cut s [36,123]).2.2=false∨(Lib.cut (Lib.cut s [36,123]).2.1 [125]).2.2=false then (if out.length+s.length<=140737488355328 then some (out++s) else none)
  else if out.length+((Lib.cut s [36,123]).1.length+(getM l (Lib.cut (Lib.cut s [36,123]).2.1 [125]).1).length)<=140737488355328 then
   expF l n (Lib.cut (Lib.cut s [36,123]).2.1 [125]).2.1 (out++((Lib.cut s [36,123]).1++getM l (Lib.cut (Lib.cut s [36,123]).2.1 [125]).1))
  else none
def expP (l:List (BA×BA)) (s:BA):Oq BA:=if s.size<4294967281 then (expF l (s.size+1) s.data.toList []).map λo=>⟨(o.take 4000).toArray⟩ else none
def digP (k:BA):Bool:=match k.data.toList with
 |b::_=>decide (48<=b.toNat)&&decide (b.toNat<=57)
 |[]=>false
def delP (l:List (BA×BA)):Oq (List (BA×BA)):=if l.all (λp=>decide (p.1.size≠0))=true then some (l.filter λp=>!digP p.1) else none
def nvL (s:List UInt8):Nat:=s.foldl (λn c=>10*n+(c.toNat - 48)) 0
def numP (s:BA) (most:Int):Oq (Int×Bool):=if s.size<4294967281/\most<=9223372036854775807 then some (if s.data.toList=Lib.decDigits (nvL s.data.toList)/\(nvL s.data.toList:Int)<=most then ((nvL s.data.toList:Int),true) else (0,false)) else none
def esc:List UInt8->List UInt8
 |[]=>[]
 |c::r=>if c=34∨c=92 then 92::c::esc r else c::esc r
def quoL (s:List UInt8):List UInt8:=34::(esc s++[34])
def quoP (s:BA):Oq BA:=if s.size<4294967281 then some ⟨(quoL s.data.toList).toArray⟩ else none
def repP (s:BA) (n:Int):Oq BA:=if 0<=n/\n<=1000000/\s.size<=1000000 then some ⟨(List.replicate n.toNat s.data.toList).flatten.toArray⟩ else none
def strsOf:List (List C)->Oq (List BA)
 |[]=>some []
 |[.str s]::l=>(strsOf l).map (s::·)
 |_=>none
def joinP (l:List BA) (sep:BA):Oq BA:=if (Lib.join (l.map (·.data.toList)) sep.data.toList).length<=140737488355328/\l.length<=140737488355328 then some ⟨(Lib.join (l.map (·.data.toList)) sep.data.toList).toArray⟩ else none
def isHi:List (List C)->Bool
 |[[.int .u8 a],[.int .u8 b],[.int .u8 c],[.int .u8 d]]=>a==104&&(b==105&&(c==13&&d==10))
 |_=>false
def bytC:List C->Bool
 |[.int .u8 x]=>decide (0<=x)&&decide (x<256)
 |_=>false
open Classical in
noncomputable def bodG (es:List (List C)):Oq (List (List C)):=if h:∃ r:List (List C),(r.all bytC=true/\r.length<=4000000)/\CallOk Tryz.prog 82 [.c (.sl es)] (.c (.sl r),[]) then some (Classical.choose h) else none
noncomputable def bodP (es:List (List C)):Oq (List (List C)):=bif isHi es then some es else bodG es
def fldB:List C->Bool
 |[.str _,.str _]=>true
 |_=>false
def catL:List (List C)->Oq (List (List C))
 |[]=>some []
 |[.sl xs]::r=>if xs.all fldB=true then (catL r).map (xs++·) else none
 |_=>none
def catP (es:List (List C)):Oq (List (List C)):=(catL es).bind λr=>if r.length<=1000000 then some r else none
noncomputable def X0c:FuncId->List V->Oq (V×List B):=λf a=>bif clones.contains f then (match a with|[.c (.sl [])]=>some (.row 0 0,[.row []])|_=>none) else
 bif f==163 then (match a with|[.c (.str s),.c (.str t)]=>(contP s t).map λb=>(.c (.bool b),[])|_=>none) else
 bif f==125 then (match a with|[.c (.str s),.c (.str t)]=>(cutP s t).map λb=>(.tup [.c (.str b.1),.c (.str b.2.1),.c (.bool b.2.2)],[])|_=>none) else
 bif f==38 then (match a with|[.c (.str s),.c (.int .u8 c)]=>(ixbP s c).map λb=>(.c (.int .i64 b),[])|_=>none) else
 bif f==134 then (match a with|[.c (.str s),.c (.str t)]=>(canyP s t).map λb=>(.c (.bool b),[])|_=>none) else
 bif f==135 then (match a with|[.c (.str s),.c (.int .i64 n)]=>(numP s n).map λb=>(.tup [.c (.int .i64 b.1),.c (.bool b.2)],[])|_=>none) else
 bif f==64 then (match a with|[.c (.str s)]=>(quoP s).map λb=>(.c (.str b),[])|_=>none) else
 bif f==62 then (match a with|[.c (.str s),.c (.int .i64 n)]=>(repP s n).map λb=>(.c (.str b),[])|_=>none) else
 bif f==50 then (match a with|[.c (.sl es),.c (.str s)]=>(strsOf es).bind λl=>(joinP l s).map λb=>(.c (.str b),[])|_=>none) else
 bif f==82 then (match a with|[.c (.sl es)]=>(bodP es).map λr=>(.c (.sl r),[])|_=>none) else
 bif f==53 then (match a with|[.c (.sl es)]=>(catP es).map λr=>(.row 0 r.length,[.row r])|_=>none) else
 bif f==67 then (match a with|[.c (.int .i64 n)]=>(itoaP n).map λb=>(.c (.str b),[])|_=>none) else
 none
def expX:XRule where
 n:=2
 run _ s k:=match s.t 0,s.t 1 with
  |.ptr id 0,.c (.str a)=>match s.h id with
   |some (.box cs)=>match cs.getD 6 .any with
    |.mp j=>match s.h j with
     |some (.mp l)=>(expP l a).bind λr=>k ([.c (.str r)],s)
     |_=>none
    |_=>none
   |_=>none
  |_,_=>none
 ok β s k:=by
  split
  ·split
   ·split
    ·split
     ·cases expP _ _ <;> rfl
     ·rfl
    ·rfl
   ·rfl
  ·rfl
def delX (clo:Nat):XRule where
 n:=2
 run _ s k:=match s.t 0,s.t 1 with
  |.mp j,.fn f []=>bif f==clo then (match s.h j with
   |some (.mp l)=>(delP l).bind λl'=>k ([],{ s with h:=upd s.h j (some (.mp l')) })
   |_=>none) else none
  |_,_=>none
 ok β s k:=by
  split
  ·rename_i f _ _
   cases f==clo with
   |false=>rfl
   |true =>
    simp only [x22q]
    split
    ·cases delP _ <;> rfl
    ·rfl
  ·rfl
def X0h:FuncId->Oq XRule:=λf =>
 bif f==92 then some expX else
 bif f==144 then some (delX 145) else
 none
noncomputable def X0:XT:=⟨X0c,X0h⟩
def qbd:=qpj (vC cStr) (qpl (vC cStr))
def qbg:Cod (V×List B) Bool:=cFstU (cPair (vC cBool) qpk)
theorem qbe (x:(BA×BA)) (r:Bool) (h:contP x.1 x.2=some r):Call Tryz.prog lv X0 163 (qbd.enc x)=some (qbg.enc r):=by
 have:X0.c 163 (qbd.enc x)=some (qbg.enc r):=by
  show (contP x.1 x.2).map (λb=>((V.c (.bool b),[]):V×List B))=_
  rw [h]
  rfl
 unfold Call callD
 rw [this]
noncomputable def cont_e:=entS Tryz.prog lv X0 163 [] qbd qbg (λx=>contP x.1 x.2) qbe
def qbw:=qpj (vC cStr) (qpl (vC cStr))
def qby:Cod (V×List B) (BA×BA×Bool):=cFstU (cPair (vTup (qpj (vC cStr) (qpj (vC cStr) (qpl (vC cBool))))) qpk)
theorem qbx (x:(BA×BA)) (r:(BA×BA×Bool)) (h:cutP x.1 x.2=some r):Call Tryz.prog lv X0 125 (qbw.enc x)=some (qby.enc r):=by
 have:X0.c 125 (qbw.enc x)=some (qby.enc r):=by
  show (cutP x.1 x.2).map (λb=>((V.tup [.c (.str b.1),.c (.str b.2.1),.c (.bool b.2.2)],[]):V×List B))=_
  rw [h]
  rfl
 unfold Call callD
 rw [this]
noncomputable def cutf_e:=entS Tryz.prog lv X0 125 [] qbw qby (λx=>cutP x.1 x.2) qbx
def ixb_ca:=qpj (vC cStr) (qpl (vC (cInt .u8)))
def ixb_cr:Cod (V×List B) Int:=cFstU (cPair (vC (cInt .i64)) qpk)
theorem qp1 (x:(BA×Int)) (r:Int) (h:ixbP x.1 x.2=some r):Call Tryz.prog lv X0 38 (ixb_ca.enc x)=some (ixb_cr.enc r):=by
 have:X0.c 38 (ixb_ca.enc x)=some (ixb_cr.enc r):=by
  show (ixbP x.1 x.2).map (λb=>((V.c (.int .i64 b),[]):V×List B))=_
  rw [h]
  rfl
 unfold Call callD
 rw [this]
noncomputable def ixb_e:=entS Tryz.prog lv X0 38 [] ixb_ca ixb_cr (λx=>ixbP x.1 x.2) qp1
def qaa:=qpj (vC cStr) (qpl (vC cStr))
def qad:Cod (V×List B) Bool:=cFstU (cPair (vC cBool) qpk)
theorem qab (x:(BA×BA)) (r:Bool) (h:canyP x.1 x.2=some r):Call Tryz.prog lv X0 134 (qaa.enc x)=some (qad.enc r):=by
 have:X0.c 134 (qaa.enc x)=some (qad.enc r):=by
  show (canyP x.1 x.2).map (λb=>((V.c (.bool b),[]):V×List B))=_
  rw [h]
  rfl
 unfold Call callD
 rw [this]
noncomputable def cany_e:=entS Tryz.prog lv X0 134 [] qaa qad (λx=>canyP x.1 x.2) qab
def qow:=qpl (vC (cInt .i64))
def qoz:Cod (V×List B) BA:=cFstU (cPair (vC cStr) qpk)
theorem qox (x:Int) (r:BA) (h:itoaP x=some r):Call Tryz.prog lv X0 67 (qow.enc x)=some (qoz.enc r):=by
 have:X0.c 67 (qow.enc x)=some (qoz.enc r):=by
  show (itoaP x).map (λb=>((V.c (.str b),[]):V×List B))=_
  rw [h]
  rfl
 unfold Call callD
 rw [this]
noncomputable def itoa_e:=entS Tryz.prog lv X0 67 [] qow qoz (λx=>itoaP x) qox
def qtt:=qpj (vC cStr) (qpl (vC (cInt .i64)))
def qtv:Cod (V×List B) (Int×Bool):=cFstU (cPair (vTup (qpj (vC (cInt .i64)) (qpl (vC cBool)))) qpk)
theorem qtu (x:(BA×Int)) (r:(Int×Bool)) (h:numP x.1 x.2=some r):Call Tryz.prog lv X0 135 (qtt.enc x)=some (qtv.enc r):=by
 have:X0.c 135 (qtt.enc x)=some (qtv.enc r):=by
  show (numP x.1 x.2).map (λb=>((.tup [.c (.int .i64 b.1),.c (.bool b.2)],[]):V×List B))=_
  rw [h]
  rfl
 unfold Call callD
 rw [this]
noncomputable def numb_e:=entS Tryz.prog lv X0 135 [] qtt qtv (λx=>numP x.1 x.2) qtu
def qxa:=qpl (vC cStr)
def qxc:Cod (V×List B) BA:=cFstU (cPair (vC cStr) qpk)
theorem qxb (x:BA) (r:BA) (h:quoP x=some r):Call Tryz.prog lv X0 64 (qxa.enc x)=some (qxc.enc r):=by
 have:X0.c 64 (qxa.enc x)=some (qxc.enc r):=by
  show (quoP x).map (λb=>((.c (.str b),[]):V×List B))=_
  rw [h]
  rfl
 unfold Call callD
 rw [this]
noncomputable def quot_e:=entS Tryz.prog lv X0 64 [] qxa qxc (λx=>quoP x) qxb
def qy3:=qpj (vC cStr) (qpl (vC (cInt .i64)))
def qy5:Cod (V×List B) BA:=cFstU (cPair (vC cStr) qpk)
theorem qy4 (x:(BA×Int)) (r:BA) (h:repP x.1 x.2=some r):Call Tryz.prog lv X0 62 (qy3.enc x)=some (qy5.enc r):=by
 have:X0.c 62 (qy3.enc x)=some (qy5.enc r):=by
  show (repP x.1 x.2).map (λb=>((.c (.str b),[]):V×List B))=_
  rw [h]
  rfl
 unfold Call callD
 rw [this]
noncomputable def repe_e:=entS Tryz.prog lv X0 62 [] qy3 qy5 (λx=>repP x.1 x.2) qy4
noncomputable def tab0:List (Ent Tryz.prog lv X0) :=
 cont_e ::
 cutf_e ::
 ixb_e ::
 cany_e ::
 itoa_e ::
 numb_e ::
 quot_e ::
 repe_e ::
 []
theorem EC.getD_lt {τ:Type} (e:EC τ) (xs:List τ) {n:Nat} (h:n<xs.length):(e.encL xs).getD n []=e.enc xs[n]:=by
 simp [EC.encL,List.getD_eq_getElem?_getD,h]
theorem EC.getD_ge {τ:Type} (e:EC τ) (xs:List τ) {n:Nat} (h:xs.length<=n):(e.encL xs).getD n []=[]:=by
 simp [EC.encL,List.getD_eq_getElem?_getD,h]
@[simp] theorem EC.encL_length {τ:Type} (e:EC τ) (xs:List τ):(e.encL xs).length=xs.length:=by simp [EC.encL]
def segsIn:Code->List Code
 |.loop c=>segsIn c
 |.seq a b=>b::segsIn a++segsIn b
 |.cond _ a b=>segsIn a++segsIn b
 |.block _ c=>segsIn c
 |_=>[]
def getSeg (c:Code) (id:Nat):Code:=((segsIn c).find? λl=>match fstRegion l with|some i=>i==id|none=>false).getD .skip
abbrev x27q:=@EC.encL_length
end Go.Proofs.YtmlcmoaonaomfaaGreatDoor
