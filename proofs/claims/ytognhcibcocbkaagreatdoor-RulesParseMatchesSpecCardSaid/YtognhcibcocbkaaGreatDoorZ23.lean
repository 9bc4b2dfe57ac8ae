/- strings.Join, as a rule: its row in the table. -/
import Derived.Test.YtognhcibcocbkaaGreatDoorH3
namespace Go.Proofs.YtognhcibcocbkaaGreatDoor
open Go.RowKit
theorem q13c (l:List ByteArray):strsOf (q5v.encL l)=some l:=by
 induction l with
 |nil=>rfl
 |cons s l ih =>
  have e:q5v.encL (s::l)=[.str s]::q5v.encL l:=rfl
  rw [e]
  simp only [strsOf,ih,Option.map_some]
def qao:=qb7 (vC (cSl q5v)) (qb9 (vC cStr))
def qar:Cod (V×List B) ByteArray:=cFstU (cPair (vC cStr) qb8)
theorem qap (x:List ByteArray×ByteArray) (r:ByteArray) (h:joinP x.1 x.2=some r):Call Tryz.prog lv X0 86 (qao.enc x)=some (qar.enc r):=by
 have:X0.c 86 (qao.enc x)=some (qar.enc r):=by
  show ((strsOf (q5v.encL x.1)).bind fun l=>(joinP l x.2).map fun b=>((V.c (.str b),[]):V×List B))=_
  rw [q13c]
  simp only [Option.bind_some,h]
  rfl
 unfold Call callD
 rw [this]
noncomputable def join_e:=entS Tryz.prog lv X0 86 [] qao qar (fun x=>joinP x.1 x.2) qap
noncomputable def tabj:=join_e::q13y
end Go.Proofs.YtognhcibcocbkaaGreatDoor
namespace Go.Proofs.YtognhcibcocbkaaGreatDoor
open Go.RowKit
set_option maxRecDepth 100000
noncomputable section
end
end Go.Proofs.YtognhcibcocbkaaGreatDoor
