/- Words of this proof: slices that read as lists of cells, rows of one's own, worlds that only grew. No program in sight. -/
import Derived.WalkKit
import Derived.WalkSpells
import Derived.WalkLawsBesides
import Derived.Deep.AppendLies
import Derived.Deep.Draws
import Derived.Maps.AppendAt
import Derived.RegionTactic
import Derived.OwnWalk
import Derived.Deep.QuietTactic
import Derived.BigQuiet
import Derived.Lib.Hide
import Derived.StillTailTactics
import Derived.Deep.RegionHeld3
import Derived.Deep.DeepCutAuto
import Derived.Deep.LoopGhost
import Derived.Test.YtmlcmoaonaomfaaGreatDoorD
import Derived.Maps.Own
import Derived.Lib.ItoaNum
namespace Go.Proofs.YtmlcmoaonaomfaaGreatDoor
open Go.RowKit
abbrev Bel (w w':World):Prop:=Below w.heap.size w w'
theorem Bel.refl (w:World):Bel w w:=Below.refl _ _
theorem Bel.trans {a b c:World} (h:Bel a b) (h':Bel b c):Bel a c:=Below.trans h (h'.mono h.size)
theorem Bel.alloc {a b:World} (h:Bel a b) (o:Obj):Bel a (b.alloc o):=Below.alloc h h.size o
theorem Bel.drew {a b:World} (h:Bel a b):Bel a b.drew:=Below.drew h
theorem Bel.drewN {a b:World} (h:Bel a b) (n:Nat):Bel a (b.drewN n):=⟨h.os,h.tape,h.output,h.size,h.block⟩
theorem Bel.setCell {a b:World} (h:Bel a b) {p:Addr} (hp:a.heap.size<=p.block) (v:Value):Bel a (b.setCell p v):=Below.setCell h hp v
theorem Bel.cell {a b:World} (h:Bel a b) {g:Nat} (o:Nat) (hg:g<a.heap.size):b.cell? ⟨g,o,none⟩=a.cell? ⟨g,o,none⟩:=Below.cell (p:=⟨g,o,none⟩) h hg
theorem Bel.cells {a b:World} (h:Bel a b):(∀ g o,g<a.heap.size->b.cell? ⟨g,o,none⟩=a.cell? ⟨g,o,none⟩)/\(∀ g o,g<a.heap.size->b.frozen? ⟨g,o,none⟩=a.frozen? ⟨g,o,none⟩) :=
 ⟨λg o hg=>Below.cell (p:=⟨g,o,none⟩) h hg,λg o hg=>Below.frozen (p:=⟨g,o,none⟩) h hg⟩
structure Frm (S:Nat->Prop) (w w':World):Prop where
 os:w'.os=w.os
 tape:w'.tape=w.tape
 output:w'.output=w.output
 size:w.heap.size<=w'.heap.size
 block:∀ k,k<w.heap.size->¬ S k->w'.heap[k]?=w.heap[k]?
theorem Frm.refl (S:Nat->Prop) (w:World):Frm S w w:=⟨rfl,rfl,rfl,Nat.le_refl _,λ_ _ _=>rfl⟩
theorem Frm.trans {S T:Nat->Prop} {a b c:World} (h:Frm S a b) (h':Frm T b c) (hs:∀ k,T k->k<a.heap.size->S k):Frm S a c :=
 ⟨h'.os.trans h.os,h'.tape.trans h.tape,h'.output.trans h.output,Nat.le_trans h.size h'.size,λk hk hn=>(h'.block k (Nat.lt_of_lt_of_le hk h.size) (λht=>hn (hs k ht hk))).trans (h.block k hk hn)⟩
theorem Frm.alloc {S:Nat->Prop} {a b:World} (h:Frm S a b) (o:Obj):Frm S a (b.alloc o) :=
 ⟨h.os,h.tape,h.output,Nat.le_trans h.size (by simp),λk hk hn=>(Below.heap_alloc b o k (Nat.lt_of_lt_of_le hk h.size)).trans (h.block k hk hn)⟩
theorem Bel.frm {a b:World} (h:Bel a b) (S:Nat->Prop):Frm S a b:=⟨h.os,h.tape,h.output,h.size,λk hk _=>h.block k hk⟩
def Rd (w:World) (k:Nat) (A:Oq Addr) (n c:Nat) (xs:List Value):Prop :=
 xs.length=n*k/\n<=c/\c<=maxLen/\(∀ u∈xs,u.oneCell'=true)/\(0<n*k->∃ b off,A=some ⟨b,off,none⟩/\b<w.heap.size/\∀ j u,xs[j]?=some u->w.cell? ⟨b,off+j,none⟩=some u)
section
variable {w w':World} {k n c:Nat} {A:Oq Addr} {xs:List Value}
theorem Rd.le (h:Rd w k A n c xs):n<=c:=h.2.1
theorem Rd.nil:Rd w k none 0 0 []:=⟨by simp,by simp,by simp,by simp,λh=>absurd h (by simp)⟩
theorem Rd.place (h:Rd w k A n c xs) (hn:0<n*k):∃ b off,A=some ⟨b,off,none⟩/\b<w.heap.size/\∀ j u,xs[j]?=some u->w.cell? ⟨b,off+j,none⟩=some u:=h.2.2.2.2 hn
end
def blk (A:Oq Addr):Oq Nat:=A.map (·.block)
def Own (w:World) (base:Nat) (e:TypeId) (k:Nat) (A:Oq Addr) (n c:Nat) (xs:List Value):Prop :=
 w.ownsRow base e k (.slice A n c) n xs/\∀ u∈xs,u.oneCell'=true
section
variable {w w':World} {base e k n c:Nat} {A:Oq Addr} {xs:List Value}
end
def Blk (w:World) (g:Nat) (t:TypeId) (cs:Array Value):Prop:=w.heap[g]?=some (.cells cs t (0,0))
section
variable {w w':World} {g:Nat} {t:TypeId} {cs:Array Value}
end
section
variable {P:Program} {w:World} {t e:TypeId} {k by_ base n c m d:Nat} {A B:Oq Addr} {xs ys:List Value}
end
end Go.Proofs.YtmlcmoaonaomfaaGreatDoor
namespace Go.Proofs.YtmlcmoaonaomfaaGreatDoor
open Go.RowKit
abbrev ZMap:=Nat->Nat->Oq Value
def ZLe (Z Z':ZMap):Prop:=∀ b o u,Z b o=some u->Z' b o=some u
def MLe (m m':Nat->Oq Value):Prop:=∀ i v,m i=some v->m' i=some v
theorem ZLe.refl (Z:ZMap):ZLe Z Z:=λ_ _ _ h=>h
theorem ZLe.trans {a b c:ZMap} (h:ZLe a b) (h':ZLe b c):ZLe a c:=λ_ _ _ x=>h' _ _ _ (h _ _ _ x)
theorem MLe.refl (m:Nat->Oq Value):MLe m m:=λ_ _ h=>h
theorem MLe.trans {a b c:Nat->Oq Value} (h:MLe a b) (h':MLe b c):MLe a c:=λ_ _ x=>h' _ _ (h _ _ x)
inductive RepC (Z:ZMap):Value->C->Prop where
 |int (k:IntKind) (n:Int):RepC Z (.int k n) (.int k n)
 |bool (b:Bool):RepC Z (.bool b) (.bool b)
 |str (s:BA):RepC Z (.string s) (.str s)
 |nilS:RepC Z (.slice none 0 0) .nilS
 |ne (a:Addr) (c:Nat) (hc:c<=maxLen):RepC Z (.slice (some a) 0 c) .ne
 |zs (A:Oq Addr):RepC Z (.slice A 0 0) .zs
 |nilP:RepC Z (.pointer none) .nilP
 |nilF:RepC Z .nilFunc .nilF
 |sl (A:Oq Addr) (n c k b off:Nat) (U:Nat->Value) (es:List (List C)) (hl:es.length=n) (hc:n<=c) (hm:c<=maxLen) (hk:∀ e∈es,e.length=k) (hA:es≠[]->A=some ⟨b,off,none⟩)
   (hz:∀ (i:Nat) (e:List C) (j:Nat) (x:C),es[i]?=some e->e[j]?=some x->Z b (off+(i*k+j))=some (U (i*k+j)))
   (hr:∀ (i:Nat) (e:List C) (j:Nat) (x:C),es[i]?=some e->e[j]?=some x->RepC Z (U (i*k+j)) x) (hN:A=none->c=0):RepC Z (.slice A n c) (.sl es)
theorem RepC.mono {Z Z':ZMap} (h:ZLe Z Z') {v:Value} {x:C} (r:RepC Z v x):RepC Z' v x:=by
 induction r with
 |int k n=>exact .int k n
 |bool b=>exact .bool b
 |str s=>exact .str s
 |nilS=>exact .nilS
 |ne a c hc=>exact .ne a c hc
 |zs A=>exact .zs A
 |nilP=>exact .nilP
 |nilF=>exact .nilF
 |sl A n c k b off U es hl hc hm hk hA hz hr hN ih=>exact .sl A n c k b off U es hl hc hm hk hA (λi e j x a b=>h _ _ _ (hz i e j x a b)) (λi e j x a b=>ih i e j x a b) hN
theorem RepC.one {Z:ZMap} {v:Value} {x:C} (r:RepC Z v x):v.oneCell'=true:=by cases r <;> rfl
inductive Rep (Z Y:ZMap) (m:Nat->Oq Value):Value->V->Prop where
 |any (v:Value):Rep Z Y m v .any
 |c {v:Value} {x:C} (h:RepC Z v x):Rep Z Y m v (.c x)
 |agg (cs:Array Value) (Cs:List V) (hl:cs.size=Cs.length) (h1:∀ u∈cs.toList,u.oneCell'=true) (hr:∀ (i:Nat) (u:Value) (x:V),cs[i]?=some u->Cs[i]?=some x->Rep Z Y m u x):Rep Z Y m (.agg cs) (.agg Cs)
 |tup (cs:Array Value) (Cs:List V) (hl:cs.size=Cs.length) (hr:∀ (i:Nat) (u:Value) (x:V),cs[i]?=some u->Cs[i]?=some x->Rep Z Y m u x):Rep Z Y m (.tuple cs) (.tup Cs)
 |row (id n:Nat) (A:Oq Addr) (c:Nat) (h:m id=some (.slice A n c)) (hA:n≠0->∃ g,A=some ⟨g,0,none⟩):Rep Z Y m (.slice A n c) (.row id n)
 |row0 (id:Nat) (A:Oq Addr) (h:m id=some (.slice none 0 0)):Rep Z Y m (.slice A 0 0) (.row id 0)
 |ptr (id off g:Nat) (h:m id=some (.pointer (some ⟨g,0,none⟩))):Rep Z Y m (.pointer (some ⟨g,off,none⟩)) (.ptr id off)
 |rptr (id k i off g n c:Nat) (h:m id=some (.slice (some ⟨g,0,none⟩) n c)):Rep Z Y m (.pointer (some ⟨g,i*k+off,none⟩)) (.rptr id k i off)
 |eptr (b o off:Nat) (U:Nat->Value) (cs:List C) (hz:∀ (j:Nat) (x:C),cs[j]?=some x->Z b (o+j)=some (U j)∨Y b (o+j)=some (U j)) (hr:∀ (j:Nat) (x:C),cs[j]?=some x->RepC Z (U j) x):Rep Z Y m (.pointer (some ⟨b,o+off,none⟩)) (.eptr cs off)
 |fn (f:FuncId) (cs:Array Value) (Cs:List V) (hl:cs.size=Cs.length) (hr:∀ (i:Nat) (u:Value) (x:V),cs[i]?=some u->Cs[i]?=some x->Rep Z Y m u x) (hf:Nat.blt f 1000000=true):Rep Z Y m (.func (.func f) #[] cs) (.fn f Cs)
 |mp (id g:Nat) (h:m id=some (.map (some g))):Rep Z Y m (.map (some g)) (.mp id)
 |rowE (id g n c:Nat) (h:m id=some (.slice (some ⟨g,0,none⟩) n c)) (hc:c<=maxLen):Rep Z Y m (.slice (some ⟨g,0,none⟩) 0 c) (.rowE id)
 |bnd (f:FuncId) (cs:Array Value) (Cs:List V) (hl:cs.size=Cs.length) (hr:∀ (i:Nat) (u:Value) (x:V),cs[i]?=some u->Cs[i]?=some x->Rep Z Y m u x) (hf:Nat.blt f 1000000=true):Rep Z Y m (.func (.func f) cs #[]) (.fn (f+1000000) Cs)
theorem Rep.mono {Z Z' Y:ZMap} {m m':Nat->Oq Value} (hz:ZLe Z Z') (hm:MLe m m') {v:Value} {x:V} (r:Rep Z Y m v x):Rep Z' Y m' v x:=by
 induction r with
 |any v=>exact .any v
 |c h=>exact .c (h.mono hz)
 |agg cs Cs hl h1 hr ih=>exact .agg cs Cs hl h1 ih
 |tup cs Cs hl hr ih=>exact .tup cs Cs hl ih
 |row id n A c h hA=>exact .row id n A c (hm _ _ h) hA
 |row0 id A h=>exact .row0 id A (hm _ _ h)
 |ptr id off g h=>exact .ptr id off g (hm _ _ h)
 |rptr id k i off g n c h=>exact .rptr id k i off g n c (hm _ _ h)
 |eptr b o off U cs h hr=>exact .eptr b o off U cs (λj x hx=>(h j x hx).imp (hz _ _ _) id) (λj x hx=>(hr j x hx).mono hz)
 |fn f cs Cs hl hr hf ih=>exact .fn f cs Cs hl ih hf
 |bnd f cs Cs hl hr hf ih=>exact .bnd f cs Cs hl ih hf
 |mp id g h=>exact .mp id g (hm _ _ h)
 |rowE id g n c h hc=>exact .rowE id g n c (hm _ _ h) hc
section
variable {Z Y:ZMap} {m:Nat->Oq Value}
theorem q8u {v:Value} {x:C} (h:cOf v=some x):RepC Z v x:=by
 unfold cOf at h
 split at h <;> first|(injection h with h;subst h;constructor)|cases h
theorem q1e0 (v:Value):Rep Z Y m v (vCell v):=by
 unfold vCell
 cases h:cOf v with
 |none=>exact .any v
 |some x=>exact .c (q8u h)
theorem q1e2 (v:Value):Rep Z Y m v (vOf v):=by
 unfold vOf
 split
 ·rename_i cs
  split
  ·rename_i h1
   refine .agg cs _ (by simp) (List.all_eq_true.1 h1) ?_
   intro i u x hu hx
   simp only [x14q,Array.getElem?_toList,hu,x18q,Option.some.injEq] at hx
   subst hx
   exact q1e0 u
  ·exact .any _
 ·exact q1e0 v
structure Fr (Z Y:ZMap) (m:Nat->Oq Value) (nt:Nat) (t:Nat->V) (a:Act):Prop where
 size:a.tmps.size=nt
 rep:∀ i,Rep Z Y m (a.tmps.getD i undef) (t i)
theorem Fr.eval {nt:Nat} {t:Nat->V} {a:Act} (h:Fr Z Y m nt t a) (x:Operand):Rep Z Y m (a.eval x) (rho t x):=by
 cases x with
 |tmp i=>exact h.rep i
 |const v=>exact q1e2 v
 |global g=>exact .any _
 |func f =>
  show Rep Z Y m _ (bif Nat.blt f 1000000 then .fn f [] else .any)
  cases hb:Nat.blt f 1000000 with
  |true=>exact .fn f #[] [] rfl (by simp) hb
  |false=>exact .any _
theorem Fr.mono {Z':ZMap} {m':Nat->Oq Value} {nt:Nat} {t:Nat->V} {a:Act} (h:Fr Z Y m nt t a) (hz:ZLe Z Z') (hm:MLe m m'):Fr Z' Y m' nt t a :=
 ⟨h.size,λi=>(h.rep i).mono hz hm⟩
theorem Fr.put {nt:Nat} {t:Nat->V} {a:Act} (h:Fr Z Y m nt t a) (d:Oq Nat) (hd:d.all (λd=>decide (d<nt))=true) {v:Value} {x:V} (r:Rep Z Y m v x):Fr Z Y m nt (putD t d x) (a.put d v):=by
 cases d with
 |none=>exact h
 |some d =>
  have hlt:d<a.tmps.size:=by rw [h.size];simpa using hd
  refine ⟨by simp [Act.put,h.size],λi=>?_⟩
  simp only [Act.put,putD,upd]
  by_cases e:i=d
  ·subst e
   simp [Array.getD,hlt,r]
  ·simp only [e,x21q]
   have:=h.rep i
   simpa [Array.getD_eq_getD_getElem?,Array.getElem?_setIfInBounds_ne (Ne.symm e)] using this
theorem Rep.one {v:Value} {x:V} (r:Rep Z Y m v x) {vs:List V} (h:x.cells=some vs):(∃ cs Cs,v=.agg cs/\x=.agg Cs/\vs=Cs)∨(v.oneCell'=true/\vs=[x]/\v.cells=#[v]):=by
 cases r with
 |any v=>cases h
 |c h'=>right;injection h with h;subst h;exact ⟨h'.one,rfl,by cases h' <;> rfl⟩
 |agg cs Cs hl h1 hr=>left;injection h with h;exact ⟨cs,Cs,rfl,rfl,h.symm⟩
 |tup cs Cs hl hr=>cases h
 |rowE id g n c h' hc=>cases h
 |row id n A c h' hA=>right;injection h with h;exact ⟨rfl,h.symm,rfl⟩
 |row0 id A h'=>right;injection h with h;exact ⟨rfl,h.symm,rfl⟩
 |ptr id off g h'=>right;injection h with h;exact ⟨rfl,h.symm,rfl⟩
 |rptr id k i off g n c h'=>right;injection h with h;exact ⟨rfl,h.symm,rfl⟩
 |eptr b o off U cs h' hr=>right;injection h with h;exact ⟨rfl,h.symm,rfl⟩
 |fn f cs Cs hl hr hf=>right;injection h with h;exact ⟨rfl,h.symm,rfl⟩
 |bnd f cs Cs hl hr hf=>right;injection h with h;exact ⟨rfl,h.symm,rfl⟩
 |mp id g h'=>right;injection h with h;exact ⟨rfl,h.symm,rfl⟩
def cArr (g:Nat) (as cs:Array Value):Array Value:=bif Nat.blt g 1000000 then as++cs else cs++as
theorem q48 {R:Value->V->Prop} {as cs:Array Value} {xs ys:List V} (h1:as.size=xs.length) (h2:cs.size=ys.length) (hx:∀ (i:Nat) u v,as[i]?=some u->xs[i]?=some v->R u v) (hy:∀ (i:Nat) u v,cs[i]?=some u->ys[i]?=some v->R u v) :
  (as++cs).size=(xs++ys).length/\∀ (i:Nat) u v,(as++cs)[i]?=some u->(xs++ys)[i]?=some v->R u v:=by
 refine ⟨by simp [h1,h2],λi u v hu hv=>?_⟩
 rw [Array.getElem?_append] at hu
 rw [List.getElem?_append] at hv
 rw [h1] at hu
 split at hu
 ·rename_i hi
  rw [if_pos hi] at hv
  exact hx i u v hu hv
 ·rename_i hi
  rw [if_neg hi] at hv
  exact hy _ u v hu hv
theorem q8t {R:Value->V->Prop} (g:Nat) {as cs:Array Value} {xs ys:List V} (h1:as.size=xs.length) (h2:cs.size=ys.length) (hx:∀ (i:Nat) u v,as[i]?=some u->xs[i]?=some v->R u v) (hy:∀ (i:Nat) u v,cs[i]?=some u->ys[i]?=some v->R u v) :
  (cArr g as cs).size=(cAr g xs ys).length/\∀ (i:Nat) u v,(cArr g as cs)[i]?=some u->(cAr g xs ys)[i]?=some v->R u v:=by
 unfold cArr cAr
 cases Nat.blt g 1000000 with
 |true=>exact q48 h1 h2 hx hy
 |false=>exact q48 h2 h1 hy hx
theorem qsw (f:Nat) (h:Nat.blt f 1000000=true):(f+1000000) % 1000000=f:=by have:=Nat.le_of_ble_eq_true h;omega
theorem Rep.fun {v:Value} {g:Nat} {caps:List V} (r:Rep Z Y m v (.fn g caps)):∃ cs:Array Value,cs.size=caps.length/\(∀ (i:Nat) (u:Value) (x:V),cs[i]?=some u->caps[i]?=some x->Rep Z Y m u x)/\((Nat.blt g 1000000=true/\v=.func (.func g) #[] cs)∨(Nat.blt g 1000000=false/\v=.func (.func (g % 1000000)) cs #[])) /\
  ∀ (Z1 Y1:ZMap) (m1:Nat->Oq Value) (Cs:List V),cs.size=Cs.length->(∀ (i:Nat) (u:Value) (x:V),cs[i]?=some u->Cs[i]?=some x->Rep Z1 Y1 m1 u x)->Rep Z1 Y1 m1 v (.fn g Cs):=by
 cases r with
 |fn _ cs _ hl hr hf=>exact ⟨cs,hl,hr,.inl ⟨hf,rfl⟩,λ_ _ _ Cs a b=>.fn g cs Cs a b hf⟩
 |bnd f cs _ hl hr hf=>exact ⟨cs,hl,hr,.inr ⟨by rw [←Bool.not_eq_true];intro h;have:=Nat.le_of_ble_eq_true h;omega,congrArg (λq=>Value.func (.func q) cs #[]) (qsw f hf).symm⟩,λ_ _ _ Cs a b=>.bnd f cs Cs a b hf⟩
theorem Rep.cells {v:Value} {x:V} (r:Rep Z Y m v x) {vs:List V} (h:x.cells=some vs):Rep Z Y m (.agg v.cells) (.agg vs):=by
 rcases r.one h with ⟨cs,Cs,rfl,rfl,rfl⟩|⟨h1,rfl,hc⟩
 ·exact r
 ·rw [hc]
  refine .agg _ _ rfl (by simpa using h1) ?_
  intro i u y hu hy
  cases i with
  |zero=>simp at hu hy;subst hu hy;exact r
  |succ i=>simp at hu
def blkOf (m:Nat->Oq Value) (id:Nat):Oq Nat :=
 match m id with
 |some (.pointer (some a))=>some a.block
 |some (.slice (some a) _ _)=>some a.block
 |some (.map (some g))=>some g
 |_=>none
structure WB where
 w:World
 A:Nat->Prop
def WB.own (W:WB) (g:Nat):Prop:=W.w.heap.size<=g∨W.A g
abbrev BelA (W:WB) (w:World):Prop:=Frm W.A W.w w
def wb (w:World):WB:=⟨w,λ_=>False⟩
theorem wb_own {w:World} {g:Nat}:(wb w).own g ↔ w.heap.size<=g:=by simp [WB.own,wb]
theorem q1el {w w':World}:BelA (wb w) w' ↔ Bel w w':=⟨λh=>⟨h.os,h.tape,h.output,h.size,λk hk=>h.block k hk (λh=>h)⟩,λh=>h.frm _⟩
theorem Frm.cell {S:Nat->Prop} {a b:World} (h:Frm S a b) {g:Nat} (o:Nat) (hg:g<a.heap.size) (hs:¬ S g):b.cell? ⟨g,o,none⟩=a.cell? ⟨g,o,none⟩:=World.cell?_of_block (w:=a) (a:=⟨g,o,none⟩) (h.block g hg hs)
theorem BelA.trans {W:WB} {b c:World} (h:BelA W b) (h':Bel b c):BelA W c:=Frm.trans h (h'.frm W.A) (λ_ h _=>h)
structure RowAt (base:Nat->Prop) (Z:ZMap) (s:Bool) (w:World) (g n c k:Nat) (es:List (List C)):Prop where
 base:base g
 ex:∃ t fz cur,w.heap[g]?=some (.cells cur t fz)/\cur.size=c*k/\((∀ o,o<cur.size->¬ (fz.1<=o/\o<fz.2))/\(k≠1->fz=(0,0))/\fz.1<=fz.2) /\
  ∀ (i:Nat) (e:List C) (j:Nat) (x:C),es[i]?=some e->e[j]?=some x->∃ u,cur[i*k+j]?=some u/\RepC Z u x
 len:es.length=n
 le:n<=c
 max:c<=maxLen
 pos:0<k
 zero:n=0->c=0
 each:∀ e∈es,e.length=k
 apart:∀ o,Z g o≠none->s=true/\o<n*k
def RowOk (base:Nat->Prop) (Z:ZMap) (m:Nat->Oq Value) (s:Bool) (w:World) (id:Nat) (es:List (List C)):Prop :=
 (m id=some (.slice none 0 0)/\es=[])∨∃ g n c k,m id=some (.slice (some ⟨g,0,none⟩) n c)/\RowAt base Z s w g n c k es
structure BoxAt (base:Nat->Prop) (Z Y:ZMap) (m:Nat->Oq Value) (w:World) (g:Nat) (cs:List V):Prop where
 base:base g
 ex:∃ t vs,w.heap[g]?=some (.cells vs t (0,0))/\Rep Z Y m (.agg vs) (.agg cs)
 apart:∀ o,Z g o=none
theorem qar {w:World} {b o:Nat} {u:Value} (h:w.cell? ⟨b,o,none⟩=some u):b<w.heap.size:=by
 rcases Nat.lt_or_ge b w.heap.size with hlt|hge
 ·exact hlt
 ·unfold World.cell? at h;rw [Array.getElem?_eq_none hge] at h;cases h
def GW (_w:World):Prop :=
 (∃ m,_w.cell? ⟨0,0,none⟩=some (.int .i64 m)) /\
 (∃ t fz,_w.heap[1]?=some (.cells (Lib.pow10Tab.map (Value.int .u64)).toArray t fz)) /\
 (∃ ev,_w.cell? ⟨6,0,none⟩=some ev/\(ev=.nilIface∨∃ te pe,ev=.iface te pe)) /\
 (∃ ev,_w.cell? ⟨7,0,none⟩=some ev/\(ev=.nilIface∨∃ te pe,ev=.iface te pe)) /\
 True
def GB (_A:Nat->Prop):Prop :=
 ¬ _A 0 /\
 ¬ _A 1 /\
 ¬ _A 6 /\
 ¬ _A 7 /\
 True
theorem gb_no {W:WB} {A:Nat->Prop} {q:Nat} (hq:q<W.w.heap.size) (h1:¬ W.A q) (hA:∀ g,A g->W.own g):¬ A q:=λha=>by
 rcases hA _ ha with h2|h2
 ·omega
 ·exact h1 h2
theorem GB.of {W:WB} {A:Nat->Prop} (h:GW W.w/\GB W.A) (hA:∀ g,A g->W.own g):GB A:=by
 unfold GW GB at *
 first|exact trivial|skip
 all_goals obtain ⟨h1,h2⟩:=h
 obtain ⟨⟨x,h3⟩,h1⟩:=h1
 obtain ⟨h4,h2⟩:=h2
 refine ⟨gb_no (by have:=qar h3;simpa using this) h4 hA,?_⟩
 obtain ⟨⟨_,_,h5⟩,h1⟩:=h1
 obtain ⟨h6,h2⟩:=h2
 refine ⟨gb_no (by have:=(Array.getElem?_eq_some_iff.1 h5).1;simpa using this) h6 hA,?_⟩
 obtain ⟨⟨x1,hc1,_⟩,h1⟩:=h1
 obtain ⟨ha1,h2⟩:=h2
 refine ⟨gb_no (by have:=qar hc1;simpa using this) ha1 hA,?_⟩
 obtain ⟨⟨x2,hc2,_⟩,h1⟩:=h1
 obtain ⟨ha2,h2⟩:=h2
 refine ⟨gb_no (by have:=qar hc2;simpa using this) ha2 hA,?_⟩
 first|exact trivial|skip
theorem GB.no:GB (λ_=>False):=by unfold GB;simp
def headV:List C->V
 |[x]=>.c x
 |_=>.any
def tabC (es:List (List C)) (i:Nat) (v:V):List V:=(es.map headV).set i v
structure TabAt (base:Nat->Prop) (Z Y:ZMap) (m:Nat->Oq Value) (w:World) (g n c:Nat) (cs:List V):Prop where
 base:base g
 ex:∃ t fz cur,w.heap[g]?=some (.cells cur t fz)/\cur.size=c/\(∀ o,o<cur.size->¬ (fz.1<=o/\o<fz.2)) /\
  ∀ (j:Nat) (x:V),cs[j]?=some x->∃ u,cur[j]?=some u/\u.oneCell'=true/\Rep Z Y m u x
 len:cs.length=n
 le:n<=c
 apart:∀ o,Z g o=none
theorem TabAt.up {base:Nat->Prop} {g n c:Nat} {Z Z' Y:ZMap} {m m':Nat->Oq Value} {w w':World} {cs:List V} (h:TabAt base Z Y m w g n c cs) (hz:ZLe Z Z') (hm:MLe m m') (hw:∀ x,w.heap[g]?=some x->w'.heap[g]?=some x) (ha:∀ o,Z' g o=none):TabAt base Z' Y m' w' g n c cs:=by
 obtain ⟨t,fz,cur,h1,h2,h3,h4⟩:=h.ex
 exact ⟨h.base,⟨t,fz,cur,hw _ h1,h2,h3,λj x hx=>by
  obtain ⟨u,a,b,r⟩:=h4 j x hx
  exact ⟨u,a,b,r.mono hz hm⟩⟩,h.len,h.le,ha⟩
def strV:Value->BA
 |.string s=>s
 |_=>⟨#[]⟩
structure MapAt (base:Nat->Prop) (w:World) (g:Nat) (l:List (BA×BA)):Prop where
 base:base g
 ex:∃ es clock,w.heap[g]?=some (.map es clock)/\es.size<=maxLen/\MapKept.Stamped es clock /\
  (∀ x∈es.toList,∃ k v,x.key=.string k/\x.val=.string v/\k.size<=maxLen/\v.size<=maxLen)/\l=(es.toList.map λx=>(strV x.key,strV x.val)).foldr insM []
structure Rel (w0:WB) (Z Y:ZMap) (m:Nat->Oq Value) (h:Nat->Oq B) (sh:Nat->Bool) (w:World):Prop where
 bel:BelA w0 w
 gw:GW w0.w/\GB w0.A
 zok:∀ b o u,Z b o=some u->w.cell? ⟨b,o,none⟩=some u
 yok:∀ b o u,Y b o=some u->w0.w.cell? ⟨b,o,none⟩=some u/\¬ w0.A b
 box:∀ id cs,h id=some (.box cs)->∃ g,m id=some (.pointer (some ⟨g,0,none⟩))/\BoxAt w0.own Z Y m w g cs
 row:∀ id es,h id=some (.row es)->RowOk w0.own Z m (sh id) w id es
 tab:∀ id es i v,h id=some (.tab es i v)->∃ g n c,m id=some (.slice (some ⟨g,0,none⟩) n c)/\TabAt w0.own Z Y m w g n c (tabC es i v)
 mp:∀ id l,h id=some (.mp l)->∃ g,m id=some (.map (some g))/\MapAt w0.own w g l
 inj:∀ id id' g,h id≠none->h id'≠none->blkOf m id=some g->blkOf m id'=some g->id=id'
theorem BelA.gw {W:WB} {w':World} (hb:BelA W w') (h:GW W.w/\GB W.A):GW w':=by
 unfold GW GB at *
 first|exact h.1|skip
 all_goals obtain ⟨h1,h2⟩:=h
 obtain ⟨⟨x,h3⟩,h1⟩:=h1
 obtain ⟨h4,h2⟩:=h2
 refine ⟨⟨x,by rw [hb.cell _ (qar h3) h4];exact h3⟩,?_⟩
 obtain ⟨⟨a,b,h5⟩,h1⟩:=h1
 obtain ⟨h6,h2⟩:=h2
 refine ⟨⟨a,b,by rw [hb.block _ (Array.getElem?_eq_some_iff.1 h5).1 h6];exact h5⟩,?_⟩
 obtain ⟨⟨x1,hc1,hd1⟩,h1⟩:=h1
 obtain ⟨ha1,h2⟩:=h2
 refine ⟨⟨x1,by rw [hb.cell _ (qar hc1) ha1];exact hc1,hd1⟩,?_⟩
 obtain ⟨⟨x2,hc2,hd2⟩,h1⟩:=h1
 obtain ⟨ha2,h2⟩:=h2
 refine ⟨⟨x2,by rw [hb.cell _ (qar hc2) ha2];exact hc2,hd2⟩,?_⟩
 first|exact trivial|skip
theorem Rel.yok' {w0:WB} {w:World} {h:Nat->Oq B} {sh:Nat->Bool} (r:Rel w0 Z Y m h sh w) {b o:Nat} {u:Value} (hy:Y b o=some u):w.cell? ⟨b,o,none⟩=some u:=by
 have:=r.yok _ _ _ hy
 rw [r.bel.cell _ (qar this.1) this.2]
 exact this.1
theorem Rel.later {w0:WB} {w w':World} {h:Nat->Oq B} {sh:Nat->Bool} (r:Rel w0 Z Y m h sh w) (hb:Bel w w'):Rel w0 Z Y m h sh w':=by
 have hblk:∀ g x,w.heap[g]?=some x->w'.heap[g]?=some x:=λg x hx=>by
  have hlt:g<w.heap.size:=by
   rcases Nat.lt_or_ge g w.heap.size with hlt|hge
   ·exact hlt
   ·rw [Array.getElem?_eq_none hge] at hx;cases hx
  rw [hb.block g hlt];exact hx
 refine ⟨BelA.trans r.bel hb,r.gw,λb o u hz=>?_,r.yok,λid cs hi=>?_,λid es hi=>?_,λid es i v hi=>?_,λid l hi=>?_,r.inj⟩
 ·have:=r.zok b o u hz
  rw [hb.cell _ (qar this)];exact this
 ·obtain ⟨g,hm,hg⟩:=r.box id cs hi
  obtain ⟨t,vs,hv,hr⟩:=hg.ex
  exact ⟨g,hm,⟨hg.base,⟨t,vs,hblk _ _ hv,hr⟩,hg.apart⟩⟩
 ·rcases r.row id es hi with h0|⟨g,n,c,k,hm,hg⟩
  ·exact .inl h0
  ·obtain ⟨t,fz,cur,hv,hr⟩:=hg.ex
   exact .inr ⟨g,n,c,k,hm,⟨hg.base,⟨t,fz,cur,hblk _ _ hv,hr⟩,hg.len,hg.le,hg.max,hg.pos,hg.zero,hg.each,hg.apart⟩⟩
 ·obtain ⟨g,n,c,hm,hg⟩:=r.tab id es i v hi
  exact ⟨g,n,c,hm,hg.up (ZLe.refl _) (MLe.refl _) (hblk g) hg.apart⟩
 ·obtain ⟨g,hm,hg⟩:=r.mp id l hi
  obtain ⟨es,clock,hv,hr⟩:=hg.ex
  exact ⟨g,hm,⟨hg.base,es,clock,hblk _ _ hv,hr⟩⟩
end
section
variable {P:Program} {Z Y:ZMap} {m:Nat->Oq Value}
theorem q154 {t:TypeId} {d:TypeDesc} (h:P.underlying t=some d) (w:World):(underlying t).run P w=.ok d w:=run_underlying h w
theorem q14q {t:TypeId} {i:TypeInfo} (h:P.info? t=some i) (w:World):(typeInfo t).run P w=.ok i w:=by
 simp [typeInfo,program,Sem.run,h,bind,Sem.bind,pure]
theorem q153 {t:TypeId} {n:Nat} (h:szO P t=some n) (w:World):(sizeOf t).run P w=.ok n w:=by
 unfold szO at h
 cases hi:P.info? t with
 |none=>rw [hi] at h;cases h
 |some i =>
  rw [hi] at h
  injection h with h
  subst h
  simp [sizeOf,q14q hi]
theorem q14l {t:TypeId} {b:Bool} (h:aggB P t=some b) (w:World):(isAgg t).run P w=.ok b w:=by
 unfold aggB at h
 unfold isAgg
 cases hu:P.underlying t with
 |none=>rw [hu] at h;cases h
 |some d =>
  rw [hu] at h
  simp only [Sem.run_bind,q154 hu,Result.andThen_ok]
  cases d <;> simp at h <;> subst h <;> rfl
theorem q155 {t:TypeId} {i:TypeInfo} {z:Value} (h:P.info? t=some i) (hz:i.zero=some z) (w:World):(zeroValue t).run P w=.ok z w:=by
 simp [zeroValue,q14q h,hz]
theorem Rep.agg_get {vs:Array Value} {cs:List V} (r:Rep Z Y m (.agg vs) (.agg cs)) {i:Nat} {x:V} (h:cs[i]?=some x):∃ u,vs[i]?=some u/\Rep Z Y m u x/\u.oneCell'=true:=by
 cases r with
 |agg _ _ hl h1 hr =>
  have hi:i<vs.size:=by rw [hl];exact (List.getElem?_eq_some_iff.1 h).1
  exact ⟨vs[i],Array.getElem?_eq_getElem hi,hr i _ _ (Array.getElem?_eq_getElem hi) h,h1 _ (by simp)⟩
theorem Rep.agg_size {vs:Array Value} {cs:List V} (r:Rep Z Y m (.agg vs) (.agg cs)):vs.size=cs.length:=by cases r;assumption
theorem Rep.agg_one {vs:Array Value} {cs:List V} (r:Rep Z Y m (.agg vs) (.agg cs)):∀ u∈vs.toList,u.oneCell'=true:=by cases r;assumption
theorem Rep.agg_extract {vs:Array Value} {cs:List V} (r:Rep Z Y m (.agg vs) (.agg cs)) (off n:Nat) (h:off+n<=cs.length):Rep Z Y m (.agg (vs.extract off (off+n))) (.agg ((cs.drop off).take n)):=by
 have hs:=r.agg_size
 refine .agg _ _ (by simp;omega) ?_ ?_
 ·intro u hu
  apply r.agg_one
  simp only [Array.toList_extract,List.extract_eq_take_drop] at hu
  exact List.mem_of_mem_drop (List.mem_of_mem_take hu)
 ·intro i u x hu hx
  rw [List.getElem?_take] at hx
  split at hx
  ·rename_i hi
   rw [List.getElem?_drop] at hx
   obtain ⟨u',hu',hr,_⟩:=r.agg_get hx
   rw [Array.getElem?_extract_of_lt (by omega)] at hu
   rw [Array.getElem?_eq_getElem (by omega)] at hu'
   injection hu with hu
   injection hu' with hu'
   subst hu hu'
   exact hr
  ·cases hx
theorem qv0 {t:TypeId} {vs:Array Value} {cs:List V} {off:Nat} {v:V} (h:partV P t cs off=some v) (r:Rep Z Y m (.agg vs) (.agg cs)):∃ cv,Rep Z Y m cv v/\∀ w,(part t vs off).run P w=.ok cv w:=by
 unfold partV at h
 cases ha:aggB P t with
 |none=>rw [ha] at h;cases h
 |some b =>
  cases hs:szO P t with
  |none=>rw [ha,hs] at h;cases h
  |some n =>
   rw [ha,hs] at h
   simp only [x0q] at h
   cases b with
   |true =>
    simp only [x20q] at h
    split at h
    ·rename_i hle
     injection h with h
     subst h
     exact ⟨_,r.agg_extract off n hle,λw=>by simp [part,q14l ha,q153 hs]⟩
    ·cases h
   |false =>
    simp only [x1q,x21q] at h
    obtain ⟨u,hu,hr,_⟩:=r.agg_get h
    exact ⟨u,hr,λw=>by simp [part,q14l ha,hu]⟩
theorem qo5 {op:BinOp} {k:IntKind} {a b:Int} {x:C} (hs:op≠.shl/\op≠.shr) (h:intOp op k a b=some x) (t:TypeId):∃ cv,RepC Z cv x/\∀ w,(binOp op t (.int k a) (.int k b)).run P w=.ok cv w:=by
 cases op <;> simp [intOp] at h hs <;> first
  |(subst h;exact ⟨_,by first|exact .int _ _|exact .bool _,λw=>by simp [binOp,Op.intArith,Op.intCmp,Op.intBits]⟩)
  |(obtain ⟨h0,h⟩:=h;subst h;exact ⟨_,.int _ _,λw=>by simp [binOp,Op.intDiv,h0]⟩)
theorem sh_sim {op:BinOp} {k k':IntKind} {a b:Int} {x:C} (h:shOp op k a b=some x) (t:TypeId):∃ cv,RepC Z cv x/\∀ w,(binOp op t (.int k a) (.int k' b)).run P w=.ok cv w:=by
 cases op <;> simp [shOp] at h <;> (obtain ⟨h0,h⟩:=h;subst h;exact ⟨_,.int _ _,λw=>by simp [binOp,Op.shift,Int.not_lt.2 h0]⟩)
theorem q18u {op:BinOp} {a b:BA} {x:C} (h:strOp op a b=some x) (t:TypeId):∃ cv,RepC Z cv x/\∀ w,(binOp op t (.string a) (.string b)).run P w=.ok cv w:=by
  cases op <;> simp only [strOp] at h <;> first
    | (cases h;done)
    | (split at h
       · cases h
       · rename_i h0
         injection h with h;subst h;exact ⟨_,.str _,λw=>by simp only [binOp,Op.stringOp];rw [if_neg h0];rfl⟩)
    | (injection h with h;subst h;exact ⟨_,.bool _,λw=>by simp [binOp,Op.stringOp]⟩)
end
section
variable {P:Program} {Z Y:ZMap} {m:Nat->Oq Value}
theorem q14z (w:World):(program).run P w=.ok P w:=rfl
theorem qf8:∀ (d:Nat) {t:TypeId} {x y:V} {vx vy:Value} {q:Bool},eqV P d t x y=some q->Rep Z Y m vx x->Rep Z Y m vy y->∀ D,d<=D->∀ w,(Op.equalIn D t vx vy).run P w=.ok q w
 |0,_,_,_,_,_,_,h,_,_,_,_,_=>by cases h
 |d+1,t,x,y,vx,vy,q,h,rx,ry,D,hD,w=>by
  obtain ⟨D,rfl⟩:∃ D',D=D'+1:=⟨D - 1,by omega⟩
  unfold eqV at h
  unfold Op.equalIn
  cases hu:P.underlying t with
  |none=>rw [hu] at h;cases h
  |some u =>
   rw [hu] at h
   simp only [Sem.run_bind,q154 hu,Result.andThen_ok]
   split at h
   ·rename_i e;injection e with e;subst e
    cases rx with|c rx=>cases ry with|c ry=>cases rx;cases ry;injection h with h;subst h;rfl
   ·rename_i e;injection e with e;subst e
    cases rx with|c rx=>cases ry with|c ry =>
     cases rx;cases ry
     split at h
     ·rename_i hk;injection h with h;subst h hk;simp
     ·cases h
   ·rename_i e;injection e with e;subst e
    cases rx with|c rx=>cases ry with|c ry=>cases rx;cases ry;injection h with h;subst h;rfl
   ·rename_i e;injection e with e;subst e
    cases rx with|c rx=>cases ry with|c ry=>cases rx;cases ry;injection h with h;subst h;rfl
   ·rename_i e;injection e with e;subst e
    cases rx with|c rx=>cases ry with|c ry=>cases rx;cases ry;injection h with h;subst h;rfl
   ·rename_i e;injection e with e;subst e
    cases rx with|c rx=>cases ry with|c ry =>
     cases ry
     injection h with h;subst h
     cases rx with
     |sl A n c k b off U es hl hc hm hk hA hz hr hN =>
      have:=hA (by simp)
      subst this
      rfl
   ·rename_i fs xs ys e;injection e with e;subst e
    cases rx with|agg vs _ hl h1 hr=>cases ry with|agg us _ hl' h1' hr' =>
    split at h
    ·cases h
    ·rename_i hns
     simp only [Bool.or_eq_true,not_or,Bool.not_eq_true] at hns
     obtain ⟨⟨hst,_⟩,hnm⟩:=hns
     have rx:Rep Z Y m (.agg vs) (.agg xs):=.agg vs xs hl h1 hr
     have ry:Rep Z Y m (.agg us) (.agg ys):=.agg us ys hl' h1' hr'
     simp only [Sem.run_bind,q14z,Result.andThen_ok,hst,x1q,x21q]
     rw [←Array.forIn_toList]
     clear hl h1 hr hl' h1' hr'
     revert h hnm
     generalize fs.toList=l
     intro h hnm
     induction l with
     |nil=>simp at h;subst h;rfl
     |cons f l ih =>
      simp only [List.any_cons,Bool.or_eq_false_iff] at hnm
      have hf : f.name ≠ "_" := by simpa using hnm.1
      simp only [List.foldr_cons] at h
      cases h2:partV P f.type xs f.offset with
      |none=>rw [h2] at h;cases h
      |some a =>
       cases h3:partV P f.type ys f.offset with
       |none=>rw [h2,h3] at h;cases h
       |some b =>
        rw [h2,h3] at h
        simp only [x0q] at h
        cases h4:eqV P d f.type a b with
        |none=>rw [h4] at h;cases h
        |some q' =>
         rw [h4] at h
         simp only [x0q] at h
         obtain ⟨ca,ra,pa⟩:=qv0 h2 rx
         obtain ⟨cb,rb,pb⟩:=qv0 h3 ry
         have:=qf8 d h4 ra rb D (by omega)
         simp only [List.forIn_cons,hf,ne_eq,not_false_eq_true,x20q,Sem.run_bind,pa,pb,Result.andThen_ok,this]
         cases q' with
         |false=>simp at h;subst h;rfl
         |true=>simp only [x20q] at h;simp only [x15q,x1q,x21q,Sem.run_pure,Result.andThen_ok];exact ih h hnm.2
   ·cases h
end
end Go.Proofs.YtmlcmoaonaomfaaGreatDoor
