/- What recur.Between calls, as the walk by hand wants it. -/
import Derived.Test.YtfakibajjibjjaaGreatDoorZ29
import Derived.Test.YtfakibajjibjjaaGreatDoorH1
import Derived.RangeFuncRecord
namespace Go.Proofs.YtfakibajjibjjaaGreatDoor
open Go.RowKit
set_option maxRecDepth 100000
abbrev ZT:=ByteArray×Int×Int×Int×Int×Int×Int×Int×Int×Int×Int
abbrev DT:=Int×Int×Int×Int×Int×Int×Int
abbrev RT:=Int×Int×Int×Int×Bool×List Int×List Int×List Int
def zV (z:ZT):V:=.agg [.c (.str z.1),.c (.int .i64 z.2.1),.c (.int .i64 z.2.2.1),.c (.int .i64 z.2.2.2.1),.c (.int .i64 z.2.2.2.2.1),.c (.int .i64 z.2.2.2.2.2.1),.c (.int .i64 z.2.2.2.2.2.2.1),.c (.int .i64 z.2.2.2.2.2.2.2.1),.c (.int .i64 z.2.2.2.2.2.2.2.2.1),.c (.int .i64 z.2.2.2.2.2.2.2.2.2.1),.c (.int .i64 z.2.2.2.2.2.2.2.2.2.2)]
def zC (z:ZT):Array Value:=#[.string z.1,.int .i64 z.2.1,.int .i64 z.2.2.1,.int .i64 z.2.2.2.1,.int .i64 z.2.2.2.2.1,.int .i64 z.2.2.2.2.2.1,.int .i64 z.2.2.2.2.2.2.1,.int .i64 z.2.2.2.2.2.2.2.1,.int .i64 z.2.2.2.2.2.2.2.2.1,.int .i64 z.2.2.2.2.2.2.2.2.2.1,.int .i64 z.2.2.2.2.2.2.2.2.2.2]
def dV (d:DT):V:=.agg [.c (.int .i64 d.1),.c (.int .i64 d.2.1),.c (.int .i64 d.2.2.1),.c (.int .i64 d.2.2.2.1),.c (.int .i64 d.2.2.2.2.1),.c (.int .i64 d.2.2.2.2.2.1),.c (.int .i64 d.2.2.2.2.2.2)]
def dC (d:DT):Array Value:=#[.int .i64 d.1,.int .i64 d.2.1,.int .i64 d.2.2.1,.int .i64 d.2.2.2.1,.int .i64 d.2.2.2.2.1,.int .i64 d.2.2.2.2.2.1,.int .i64 d.2.2.2.2.2.2]
def rV (r:RT):V:=.agg [.c (.int .i64 r.1),.c (.int .i64 r.2.1),.c (.int .i64 r.2.2.1),.c (.int .i64 r.2.2.2.1),.c (.bool r.2.2.2.2.1),.c (.sl (qdf.encL r.2.2.2.2.2.1)),.c (.sl (qdf.encL r.2.2.2.2.2.2.1)),.c (.sl (qdf.encL r.2.2.2.2.2.2.2))]
def rC (r:RT) (s1 s2 s3:Value):Array Value:=#[.int .i64 r.1,.int .i64 r.2.1,.int .i64 r.2.2.1,.int .i64 r.2.2.2.1,.bool r.2.2.2.2.1,s1,s2,s3]
noncomputable def pZval (z:ZT):Option (Int×Int):=zval_s z.1 z.2.1 z.2.2.1 z.2.2.2.1 z.2.2.2.2.1 z.2.2.2.2.2.1 z.2.2.2.2.2.2.1 z.2.2.2.2.2.2.2.1 z.2.2.2.2.2.2.2.2.1 z.2.2.2.2.2.2.2.2.2.1 z.2.2.2.2.2.2.2.2.2.2
noncomputable def pZinst (z:ZT) (d:DT):Option ((Nat×(Int×Int))×List Int):=q15x z.1 z.2.1 z.2.2.1 z.2.2.2.1 z.2.2.2.2.1 z.2.2.2.2.2.1 z.2.2.2.2.2.2.1 z.2.2.2.2.2.2.2.1 z.2.2.2.2.2.2.2.2.1 z.2.2.2.2.2.2.2.2.2.1 z.2.2.2.2.2.2.2.2.2.2 d.1 d.2.1 d.2.2.1 d.2.2.2.1 d.2.2.2.2.1 d.2.2.2.2.2.1 d.2.2.2.2.2.2
noncomputable def pRval (r:RT):Option (Int×Int):=rval_s r.1 r.2.1 r.2.2.1 r.2.2.2.1 r.2.2.2.2.1 r.2.2.2.2.2.1 r.2.2.2.2.2.2.1 r.2.2.2.2.2.2.2
noncomputable def pFits (r:RT) (s d:DT) (k:Int):Option Bool:=fits_s r.1 r.2.1 r.2.2.1 r.2.2.2.1 r.2.2.2.2.1 r.2.2.2.2.2.1 r.2.2.2.2.2.2.1 r.2.2.2.2.2.2.2 s.1 s.2.1 s.2.2.1 s.2.2.2.1 s.2.2.2.2.1 s.2.2.2.2.2.1 s.2.2.2.2.2.2 d.1 d.2.1 d.2.2.1 d.2.2.2.1 d.2.2.2.2.1 d.2.2.2.2.2.1 d.2.2.2.2.2.2 k
noncomputable def pDinst (d:DT):Option (Int×(Int×Int)):=qcm d.1 d.2.1 d.2.2.1 d.2.2.2.1 d.2.2.2.2.1 d.2.2.2.2.2.1 d.2.2.2.2.2.2
theorem q84 {f:FuncId} {args:List V} {res:V×List B} (h:Call Tryz.prog lv X0 f args=some res):CallOk Tryz.prog f args res:=qj Tryz.prog lv X0 qsi X0_ok h
section
variable {w:World} (hG:GW w)
include hG
theorem q7w (a b:Int):Calls Tryz.prog 13 #[.int .i64 a,.int .i64 b] w fun e w'=>e=.returned (.agg #[.int .i64 a,.int .i64 b])∧Bel w w' :=
 q87 (x:=.agg [.c (.int .i64 a),.c (.int .i64 b)]) (args:=[.c (.int .i64 a),.c (.int .i64 b)]) (q84 (qf3 (q5k (code:=a) (at_:=b) rfl))) rfl rfl hG
theorem c_none:Calls Tryz.prog 19 #[] w fun e w'=>e=.returned (.agg #[.int .i64 0,.int .i64 0])∧Bel w w' :=
 q87 (x:=.agg [.c (.int .i64 0),.c (.int .i64 0)]) (args:=[]) (us:=[]) (q84 (qf3 (q68 rfl))) rfl rfl hG
theorem q7v (a b:Int):Calls Tryz.prog 15 #[.agg #[.int .i64 a,.int .i64 b]] w fun e w'=>e=.returned (.bool (a != 0))∧Bel w w' :=
 q87 (x:=.c (.bool (a != 0))) (args:=[.agg [.c (.int .i64 a),.c (.int .i64 b)]]) (q84 (qf3 (q5e (f_Code:=a) (f_Index:=b) rfl))) rfl rfl hG
theorem c_time {t:Int} {q:Bool} (h:q6f t=some q):Calls Tryz.prog 42 #[.int .i64 t] w fun e w'=>e=.returned (.bool q)∧Bel w w' :=
 q87 (x:=.c (.bool q)) (args:=[.c (.int .i64 t)]) (q84 (qf3 h)) rfl rfl hG
theorem c_zval {z:ZT} {f:Int×Int} (h:pZval z=some f):Calls Tryz.prog 16 #[.agg (zC z)] w fun e w'=>e=.returned (.agg #[.int .i64 f.1,.int .i64 f.2])∧Bel w w' :=
 q87 (x:=.agg [.c (.int .i64 f.1),.c (.int .i64 f.2)]) (args:=[zV z]) (q84 (qf3 h)) rfl rfl hG
theorem q7u {d:DT} {n:Int} {f:Int×Int} (h:pDinst d=some (n,f)):Calls Tryz.prog 123 #[.agg (dC d)] w fun e w'=>e=.returned (.tuple #[.int .i64 n,.agg #[.int .i64 f.1,.int .i64 f.2]])∧Bel w w' :=
 q87 (x:=.tup [.c (.int .i64 n),.agg [.c (.int .i64 f.1),.c (.int .i64 f.2)]]) (args:=[dV d]) (q84 (qf3 h)) rfl rfl hG
theorem q7t {t:Int} {d:DT} {f:Int×Int} (h:q9l t 0=some (d,f)):Calls Tryz.prog 128 #[.int .i64 t,.int .i64 0] w fun e w'=>e=.returned (.tuple #[.agg (dC d),.agg #[.int .i64 f.1,.int .i64 f.2]])∧Bel w w' :=
 q87 (x:=.tup [dV d,.agg [.c (.int .i64 f.1),.c (.int .i64 f.2)]]) (args:=[.c (.int .i64 t),.c (.int .i64 0)]) (q84 (qf3 h)) rfl rfl hG
theorem c_rval {r:RT} {f:Int×Int} (h:pRval r=some f) (Z:ZMap) (hZ:∀ b o u,Z b o=some u→w.cell? ⟨b,o,none⟩=some u) {u:Value} (hr:Rep Z (fun _ _=>none) noM u (rV r)):Calls Tryz.prog 88 #[u] w fun e w'=>e=.returned (.agg #[.int .i64 f.1,.int .i64 f.2])∧Bel w w' :=
 q88 (x:=.agg [.c (.int .i64 f.1),.c (.int .i64 f.2)]) (args:=[rV r]) (q84 (qf3 h)) rfl hG Z hZ rfl (fun i u x hu hx=>by
  match i with
  |0=>simp at hu hx;subst hu hx;exact hr
  |i+1=>simp at hu)
theorem c_fits {r:RT} {s d:DT} {k:Int} {q:Bool} (h:pFits r s d k=some q) (Z:ZMap) (hZ:∀ b o u,Z b o=some u→w.cell? ⟨b,o,none⟩=some u) {u:Value} (hr:Rep Z (fun _ _=>none) noM u (rV r)) :
  Calls Tryz.prog 129 #[u,.agg (dC s),.agg (dC d),.int .i64 k] w fun e w'=>e=.returned (.bool q)∧Bel w w' :=
 q88 (x:=.c (.bool q)) (args:=[rV r,dV s,dV d,.c (.int .i64 k)]) (q84 (qf3 h)) rfl hG Z hZ rfl (fun i u x hu hx=>by
  match i with
  |0=>simp at hu hx;subst hu hx;exact hr
  |1=>simp at hu hx;subst hu hx;exact q1g rfl
  |2=>simp at hu hx;subst hu hx;exact q1g rfl
  |3=>simp at hu hx;subst hu hx;exact q1g rfl
  |i+4=>simp at hu)
def InstV (w:World) (v:Value) (l:List Int):Prop:=(l=[]∧∃ A c,v=.slice A 0 c)∨∃ t r g c,l=t::r∧v=.slice (some ⟨g,0,none⟩) l.length c∧w.cell? ⟨g,0,none⟩=some (.int .i64 t)
theorem q7x {z:ZT} {d:DT} {n:Nat} {f:Int×Int} {l:List Int} (h:pZinst z d=some ((n,f),l)):Calls Tryz.prog 87 #[.agg (zC z),.agg (dC d)] w fun e w'=>∃ v,e=.returned (.tuple #[v,.agg #[.int .i64 f.1,.int .i64 f.2]])∧Bel w w'∧InstV w' v l:=by
 have hc:CallOk Tryz.prog 87 [zV z,dV d] (.tup [.row 0 n,.agg [.c (.int .i64 f.1),.c (.int .i64 f.2)]],[.row (qdf.encL l)]):=q84 (qf3 h)
 refine (hc.2.2 w (fun _ _=>none) (fun _ _=>none) _ hG (fun _ _ _ h=>by cases h) (fun _ _ _ h=>by cases h) rfl ?_).mono fun e w'=>?_
 ·intro i u x hu hx
  match i with
  |0=>simp at hu hx;subst hu hx;exact q1g rfl
  |1=>simp at hu hx;subst hu hx;exact q1g rfl
  |i+2=>simp at hu
 ·rintro ⟨cv,Z',m',rfl,_,R,r,_⟩
  cases r with
  |tup cs _ hl hr =>
  have h2:cs.size=2:=by simpa using hl
  have e0:cs=#[cs[0]'(by omega),cs[1]'(by omega)]:=by
   apply Array.ext (by simpa using h2)
   intro i h1 h2
   match i,h2 with
   |0,_=>rfl
   |1,_=>rfl
  have r0:=hr 0 _ _ (Array.getElem?_eq_getElem (by omega)) rfl
  have r1:=hr 1 _ _ (Array.getElem?_eq_getElem (by omega)) rfl
  generalize cs[0]'(by omega)=v at r0 e0
  generalize cs[1]'(by omega)=v1 at r1 e0
  subst e0
  have e1:v1=.agg #[.int .i64 f.1,.int .i64 f.2]:=q1f r1 rfl
  subst e1
  refine ⟨v,rfl,q153.1 R.bel,?_⟩
  have hrow:=R.row 0 (qdf.encL l) rfl
  have nil:∀ {l:List Int},qdf.encL l=[]→l=[]:=fun e=>List.map_eq_nil_iff.1 e
  cases r0 with
  |row _ _ A c hm hA =>
   rcases hrow with ⟨h0,h1⟩|⟨g,n1,c1,k,h0,hat⟩
   ·rw [hm] at h0
    injection h0 with h0;injection h0 with a1 a2 a3
    subst a2
    exact .inl ⟨nil h1,_,_,rfl⟩
   ·rw [hm] at h0
    injection h0 with h0;injection h0 with a1 a2 a3
    subst a1 a2 a3
    have hln:l.length=n:=by have:=hat.len;simpa using this
    subst hln
    cases l with
    |nil=>exact .inl ⟨rfl,_,_,rfl⟩
    |cons t r =>
     have hk:k=1:=(hat.each (qdf.enc t) (by simp [EC.encL])).symm
     subst hk
     obtain ⟨ty,fz,cur,hv,_,_,hcell⟩:=hat.ex
     obtain ⟨u,a0,b0⟩:=hcell 0 _ 0 (.int .i64 t) (by simp [EC.encL];rfl) rfl
     cases b0
     refine .inr ⟨t,r,g,c,rfl,rfl,?_⟩
     simp only [World.cell?,hv]
     simpa using a0
  |row0 _ A hm =>
   rcases hrow with ⟨h0,h1⟩|⟨g,n1,c1,k,h0,hat⟩
   ·exact .inl ⟨nil h1,_,_,rfl⟩
   ·rw [hm] at h0;cases h0
end
theorem q166 (W:World) (o:Obj) {k:Nat} (h:k=W.heap.size):(W.alloc o).heap[k]?=some o:=by subst h;exact World.alloc_heap_new W o
theorem q167 {W:World} {x:Obj} (o:Obj) {k:Nat} (h:W.heap[k]?=some x):(W.alloc o).heap[k]?=some x:=(Below.heap_alloc W o k (Array.getElem?_eq_some_iff.1 h).1).trans h
theorem q168 {W:World} {k o:Nat} {cs:Array Value} {t:TypeId} {fz:Nat×Nat} (h:W.heap[k]?=some (.cells cs t fz)):W.cell? ⟨k,o,none⟩=cs[o]?:=by simp [World.cell?,h]
end Go.Proofs.YtfakibajjibjjaaGreatDoor
