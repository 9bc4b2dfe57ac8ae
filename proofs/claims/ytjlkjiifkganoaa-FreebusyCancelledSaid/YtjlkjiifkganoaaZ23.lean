/- freebusy.Union: the rule is sound. -/
import Derived.Test.YtjlkjiifkganoaaZ22
import Derived.Test.YtjlkjiifkganoaaZ21
import Derived.Test.YtjlkjiifkganoaaH1
import Derived.RangeFuncRecord
import Derived.RangeFuncSeq
import Derived.RangeFuncLeaves
import Derived.WalkKit
namespace Go.Proofs.Ytjlkjiifkganoaa
set_option linter.unusedSimpArgs false
open Go.RowKit
def Z1 (W w:World) (Z:ZMap):ZMap:=fun b o=>if (Z b o).isSome then Z b o else if W.heap.size≤b then w.cell? ⟨b,o,none⟩ else none
theorem Z1_up (W w:World) (Z:ZMap):ZUp (wb W) Z (Z1 W w Z):=by
 refine ⟨fun b o u h=>by simp [Z1,h],fun b o u h=>?_⟩
 unfold Z1 at h
 split at h
 ·exact .inl h
 ·split at h
  ·rename_i h1;exact .inr (qxs.2 h1)
  ·cases h
theorem Z1_ok {W w:World} {Z:ZMap} (hb:Bel W w) (hZ:∀ b o u,Z b o=some u→W.cell? ⟨b,o,none⟩=some u):∀ b o u,Z1 W w Z b o=some u→w.cell? ⟨b,o,none⟩=some u:=by
 intro b o u h
 unfold Z1 at h
 split at h
 ·have:=hZ b o u h
  rw [hb.cell _ (q6v this)];exact this
 ·split at h
  ·exact h
  ·cases h
theorem Hold.repc {W w:World} {Z:ZMap} {v:Value} {l:List Pd} (h:Hold W w v l) (hb:Bel W w) (hZ:∀ b o u,Z b o=some u→W.cell? ⟨b,o,none⟩=some u):RepC (Z1 W w Z) v (.sl (q11q.encL l)):=by
 rcases h with ⟨rfl,A,c,rfl,hc,hA⟩|⟨g,n,c,rfl,hg,h⟩
 ·exact .sl A 0 c 2 0 0 (fun _=>.nilFunc) [] rfl (by simp) hc (by simp) (by simp) (by simp) (by simp) hA
 ·have hl:=h.2.1
  refine .sl _ n c 2 g 0 (fun j=>(w.cell? ⟨g,j,none⟩).getD undef) _ (by simp [hl]) h.2.2.1 h.2.2.2.1 RowP.each (fun _=>rfl) ?_ ?_ (by simp)
  ·intro i e j x h1 h2
   obtain ⟨u,hu,_⟩:=h.cell h1 h2
   have hk:=Z1_ok (Z:=Z) hb hZ g (i*2+j)
   simp only [Nat.zero_add,hu,Option.getD_some]
   unfold Z1 at hk ⊢
   split
   ·rename_i hs
    obtain ⟨u',hu'⟩:=Option.isSome_iff_exists.1 hs
    rw [hu']
    rw [hs,if_pos rfl] at hk
    have:=hk u' hu'
    rw [hu] at this
    exact this.symm
   ·first|(rw [if_pos hg,hu];done)|exact hu|simpa [hg] using hu
  ·intro i e j x h1 h2
   obtain ⟨u,hu,hr⟩:=h.cell h1 h2
   simp only [hu,Option.getD_some]
   exact hr _
theorem Hold.slice {W w:World} {v:Value} {l:List Pd} (h:Hold W w v l):∃ A c,v=.slice A l.length c:=by
 rcases h with ⟨rfl,A,c,rfl,hc,hA⟩|⟨g,n,c,rfl,hg,h⟩
 ·exact ⟨A,c,rfl⟩
 ·exact ⟨_,c,by rw [h.2.1]⟩
set_option maxHeartbeats 4000000 in
set_option maxRecDepth 1000000 in
theorem qxc (l:List Pd) (hl:l.length≤1000000):CallOk Try.prog 12 [.c (.sl (q11q.encL l))] (.row 0 (unionU l).length,[.row (q11q.encL (unionU l))]):=by
 refine ⟨rfl,(fun b hb=>⟨_,by simpa using hb⟩),fun W Z Y cargs hG hZ hY hs hr=>?_⟩
 have hs1:cargs.size=1:=hs
 obtain ⟨u,hu⟩:∃ u,cargs[0]?=some u:=⟨cargs[0]'(by omega),Array.getElem?_eq_getElem _⟩
 have r0:=hr 0 u _ hu rfl
 cases r0 with
 |c r0 =>
 obtain rfl:cargs=#[u]:=by
  apply Array.ext (by simpa using hs1)
  intro i h1 h2
  have:i=0:=by simp at h2;omega
  subst this
  rw [Array.getElem?_eq_getElem h1] at hu
  injection hu
 have hcl:=q7q hG hZ hY hl r0
 have hdel:=fun (w:World) (v:Value) (hb:Bel W w) (h:Hold W w v l)=>q9i hG hb h
 have hlF:(l.filter fun p=>!badP p).length≤l.length:=List.length_filter_le _ _
 unfold unionU
 generalize l.filter (fun p=>!badP p)=F at *
 have hsort:=fun (w:World) (v:Value) (hb:Bel W w) (h:Hold W w v F)=>qt4 hb h (by omega)
 have hlS:(sortU F).length=F.length:=(qt2 F).2.1
 generalize sortU F=G at *
 have hun:=qxb G (by omega) G.length 0 [] (by omega) (by simp)
 rw [List.drop_zero] at hun
 clear hlS
 generalize mergeU [] G=M at *
 go_enter Try.func12,Try.ntmps12
 go_wp2_with (first|(go_at_call 26;refine hcl.mono ?_;rintro e w1 ⟨v1,rfl,hb1,hh1⟩)|(go_at_call 25;refine (hdel _ _ hb1 hh1).mono ?_;rintro e w2 ⟨v2,rfl,hb2,hh2⟩)|(go_at_call 28;refine (hsort _ _ hb2 hh2).mono ?_;rintro e w3 ⟨rfl,hb3,hh3⟩;obtain ⟨A,c,rfl⟩:=hh3.slice))
 rename_i K hK
 have hrc:=hh3.repc hb3 hZ
 have hR:Rel (wb W) (Z1 W w3 Z) Z0 (fun i=>if i=0 then some (.slice none 0 0) else none) (fun j=>([some (B.row (q11q.encL []))][j]?).getD none) (fun j=>([false][j]?).getD false) w3:=by
  refine ⟨qxr.2 hb3,⟨hG,GB.no⟩,Z1_ok hb3 hZ,(fun _ _ _ h=>by cases h),?_,?_,?_,?_,?_⟩
  ·intro id cs h
   cases id <;> simp at h
  ·intro id es h
   cases id with
   |succ id=>simp at h
   |zero=>simp [EC.encL] at h;subst h;exact .inl ⟨by simp,rfl⟩
  ·intro id es i v h
   cases id <;> simp at h
  ·intro id l h
   cases id <;> simp at h
  ·intro id id' g' h1 h2 _ _
   cases id with
   |succ id=>simp at h1
   |zero=>cases id' with
    |succ id'=>simp at h2
    |zero=>rfl
 have ok:=lS_ok qjz X0_ok hun (qx2 _ _ _ _ _) Z0 (wb W)
 refine ok [] (fun _=>none) (Z1 W w3 Z) _ _ _ ⟨⟨rfl,fun q=>?_⟩,hR,(fun _ _ _ _ h=>by cases h),rfl⟩ ?_ _ ?_
 ·show Rep _ _ _ _ (tb [(3,V.row 0 0),(12,V.c (.sl (q11q.encL G))),(13,V.c (.int .i64 (G.length:Int))),(14,V.c (.int .i64 0))] q)
  match q with
  |3=>exact .row 0 0 none 0 (by simp) (by simp)
  |12=>exact .c hrc
  |13=>exact .c (.int _ _)
  |14=>exact .c (.int _ _)
  |0=>exact .any _
  |1=>exact .any _
  |2=>exact .any _
  |4=>exact .any _
  |5=>exact .any _
  |6=>exact .any _
  |7=>exact .any _
  |8=>exact .any _
  |9=>exact .any _
  |10=>exact .any _
  |11=>exact .any _
  |q+15=>exact .any _
 ·intro q hq
  show q<1
  cases q with
  |zero=>decide
  |succ q=>simp at hq
 ·intro a' w4 Z' m' hz' hm' F'
  have hsz:a'.tmps.size=51:=F'.fr.size
  have hdf:a'.defers=[]:=F'.df
  have r3:Rep Z' Z0 m' (a'.tmps.getD 3 undef) (.row 0 M.length):=F'.fr.rep 3
  have hRel:Rel (wb W) Z' Z0 m' (fun j=>([some (B.row (q11q.encL M))][j]?).getD none) (fun j=>([false][j]?).getD false) w4:=F'.rel
  have hm1:∀ i,m' i≠none→i<1:=hm'
  have hlit:=qp hsz
  obtain ⟨tm,df⟩:=a'
  simp only at hsz hdf r3 hlit
  subst hdf
  generalize hT:(fun i=>tm.getD i undef)=T at *
  have hT3:tm.getD 3 undef=T 3:=by rw [←hT]
  rw [hT3] at r3
  rw [show List.range 51=[0,1,2,3,4,5,6,7,8,9,10,11,12,13,14,15,16,17,18,19,20,21,22,23,24,25,26,27,28,29,30,31,32,33,34,35,36,37,38,39,40,41,42,43,44,45,46,47,48,49,50] from rfl] at hlit
  simp only [List.map_cons,List.map_nil] at hlit
  clear hT hT3 hsz
  subst hlit
  refine hK _ _ ?_
  clear F' ok hR hm' hun
  go_wp2
  go_ret
  have e1:(fun j:Nat=>([some (B.row (q11q.encL M))][j]?).getD none)=fun i:Nat=>[B.row (q11q.encL M)][i]?:=by
   funext j;cases j <;> rfl
  have e2:(fun j:Nat=>([false][j]?).getD false)=fun _=>false:=by
   funext j;cases j <;> rfl
  rw [e1,e2] at hRel
  exact ⟨T 3,Z',m',rfl,(Z1_up W w3 Z).trans hz',hRel,r3,hm1⟩
end Go.Proofs.Ytjlkjiifkganoaa
namespace Go.Proofs.Ytjlkjiifkganoaa
set_option linter.unusedSimpArgs false
open Go.RowKit
def cVal:C→Option Value
 |.int k n=>some (.int k n)
 |.bool b=>some (.bool b)
 |.str s=>some (.string s)
 |_=>none
def cellV:V→Option Value
 |.c x=>cVal x
 |_=>none
def mapO {α β:Type} (f:α→Option β):List α→Option (List β)
 |[]=>some []
 |x::l=>match f x,mapO f l with
  |some y,some r=>some (y::r)
  |_,_=>none
def aggV:V→Option Value
 |.agg l=>(mapO cellV l).map fun vs=>.agg vs.toArray
 |v=>cellV v
def topV:V→Option Value
 |.tup l=>(mapO aggV l).map fun vs=>.tuple vs.toArray
 |v=>aggV v
section
variable {Z Y:ZMap} {m:Nat→Option Value}
theorem qjn {α β:Type} {f:α→Option β}:∀ {l:List α} {r:List β},mapO f l=some r→r.length=l.length
 |[],r,h=>by injection h with h;subst h;rfl
 |x::l,r,h=>by
  unfold mapO at h
  split at h
  ·rename_i y r' h1 h2
   injection h with h
   subst h
   simp [qjn h2]
  ·cases h
theorem qjm {α β:Type} {f:α→Option β}:∀ {l:List α} {r:List β},mapO f l=some r→∀ (i:Nat) x,l[i]?=some x→∃ y,r[i]?=some y∧f x=some y
 |[],r,h,i,x,hx=>by simp at hx
 |a::l,r,h,i,x,hx=>by
  unfold mapO at h
  split at h
  ·rename_i y r' h1 h2
   injection h with h
   subst h
   cases i with
   |zero=>simp at hx;subst hx;exact ⟨y,rfl,h1⟩
   |succ i=>simpa using qjm h2 i x (by simpa using hx)
  ·cases h
theorem q6t {v u:Value} {x:V} (r:Rep Z Y m v x) (h:cellV x=some u):v=u:=by
 cases x with
 |c x =>
  cases r with
  |c r=>cases r <;> simp [cellV,cVal] at h <;> exact h
 |_=>cases h
theorem q6u {u:Value} {x:V} (h:cellV x=some u):Rep Z Y m u x∧u.oneCell'=true:=by
 cases x with
 |c x =>
  cases x <;> simp [cellV,cVal] at h
  all_goals
   subst h
   refine ⟨.c ?_,rfl⟩
   constructor
 |_=>cases h
theorem qj4 {f:V→Option Value} {cs:Array Value} {Cs:List V} {vs:List Value} (hl:cs.size=Cs.length) (hr:∀ (i:Nat) (u:Value) (x:V),cs[i]?=some u→Cs[i]?=some x→Rep Z Y m u x)
  (h:mapO f Cs=some vs) (hf:∀ v u x,Rep Z Y m v x→f x=some u→v=u):cs=vs.toArray:=by
 have hv:=qjn h
 apply Array.ext (by simp [hl,hv])
 intro i h1 h2
 have hi:i<Cs.length:=by omega
 obtain ⟨y,hy,hfy⟩:=qjm h i _ (List.getElem?_eq_getElem hi)
 have:=hf _ _ _ (hr i _ _ (Array.getElem?_eq_getElem h1) (List.getElem?_eq_getElem hi)) hfy
 rw [this]
 have h3:i<vs.length:=by omega
 rw [List.getElem?_eq_getElem h3] at hy
 injection hy with hy
 simp [hy]
theorem qz {v u:Value} {x:V} (r:Rep Z Y m v x) (h:aggV x=some u):v=u:=by
 cases x with
 |agg l =>
  cases r with
  |agg cs _ hl h1 hr =>
   simp only [aggV] at h
   cases hm:mapO cellV l with
   |none=>rw [hm] at h;cases h
   |some vs =>
    rw [hm] at h
    injection h with h
    subst h
    rw [qj4 hl hr hm (fun v u x r h=>q6t r h)]
 |c x=>exact q6t r h
 |_=>cases h
theorem qvx {v u:Value} {x:V} (r:Rep Z Y m v x) (h:topV x=some u):v=u:=by
 cases x with
 |tup l =>
  cases r with
  |tup cs _ hl hr =>
   simp only [topV] at h
   cases hm:mapO aggV l with
   |none=>rw [hm] at h;cases h
   |some vs =>
    rw [hm] at h
    injection h with h
    subst h
    rw [qj4 hl hr hm (fun v u x r h=>qz r h)]
 |agg l=>exact qz r h
 |c x=>exact q6t r h
 |_=>cases h
theorem q10 {u:Value} {x:V} (h:aggV x=some u):Rep Z Y m u x:=by
 cases x with
 |agg l =>
  simp only [aggV] at h
  cases hm:mapO cellV l with
  |none=>rw [hm] at h;cases h
  |some vs =>
   rw [hm] at h
   injection h with h
   subst h
   have hv:=qjn hm
   have hg:∀ (i:Nat) (u:Value) (x:V),vs[i]?=some u→l[i]?=some x→cellV x=some u:=fun i u x hu hx=>by
    obtain ⟨y,hy,h2⟩:=qjm hm i x hx
    rw [hu] at hy
    injection hy with hy
    rw [hy];exact h2
   refine .agg _ _ (by simp [hv]) (fun u hu=>?_) (fun i u x hu hx=>(q6u (hg i u x (by simpa using hu) hx)).1)
   obtain ⟨i,hi,rfl⟩:=List.getElem_of_mem hu
   have hi':i<vs.length:=by simpa using hi
   have hil:i<l.length:=by omega
   have:=hg i _ _ (List.getElem?_eq_getElem hi') (List.getElem?_eq_getElem hil)
   exact (q6u (Z:=Z) (Y:=Y) (m:=m) this).2
 |c x=>exact (q6u (x:=.c x) h).1
 |_=>cases h
end
theorem q6l {f:FuncId} {args:List V} {x:V} {u:Value} (h:CallOk Try.prog f args (x,[])) (hu:topV x=some u) {w:World} (hG:GW w) (Z:ZMap) (hZ:∀ b o u,Z b o=some u→w.cell? ⟨b,o,none⟩=some u) {cargs:Array Value} (hs:cargs.size=args.length)
  (hr:∀ (i:Nat) u x,cargs[i]?=some u→args[i]?=some x→Rep Z (fun _ _=>none) noM u x):Calls Try.prog f cargs w fun e w'=>e=.returned u∧Bel w w':=by
 refine (h.2.2 w Z (fun _ _=>none) cargs hG hZ (fun _ _ _ h=>by cases h) hs hr).mono fun e w'=>?_
 rintro ⟨cv,Z',m',rfl,_,R,r,_⟩
 rw [qvx r hu]
 exact ⟨rfl,qxr.1 R.bel⟩
theorem q23 {args:List V} {us:List Value} (h:mapO aggV args=some us) {Z Y:ZMap} {m:Nat→Option Value}:us.toArray.size=args.length∧∀ (i:Nat) u x,us.toArray[i]?=some u→args[i]?=some x→Rep Z Y m u x:=by
 refine ⟨by simp [qjn h],fun i u x hu hx=>?_⟩
 obtain ⟨y,hy,h2⟩:=qjm h i x hx
 have:us[i]?=some u:=by simpa using hu
 rw [this] at hy
 injection hy with hy
 rw [hy]
 exact q10 h2
theorem q6k {f:FuncId} {args:List V} {us:List Value} {x:V} {u:Value} (h:CallOk Try.prog f args (x,[])) (ha:mapO aggV args=some us) (hu:topV x=some u) {w:World} (hG:GW w):Calls Try.prog f us.toArray w fun e w'=>e=.returned u∧Bel w w' :=
 q6l h hu hG (fun _ _=>none) (fun _ _ _ h=>by cases h) (q23 ha (Z:=fun _ _=>none) (Y:=fun _ _=>none) (m:=noM)).1 (q23 ha).2
set_option maxRecDepth 100000
abbrev ZT:=ByteArray×Int×Int×Int×Int×Int×Int×Int×Int×Int×Int
abbrev DT:=Int×Int×Int×Int×Int×Int×Int
abbrev RT:=Int×Int×Int×Int×Bool×List Int×List Int×List Int
def zV (z:ZT):V:=.agg [.c (.str z.1),.c (.int .i64 z.2.1),.c (.int .i64 z.2.2.1),.c (.int .i64 z.2.2.2.1),.c (.int .i64 z.2.2.2.2.1),.c (.int .i64 z.2.2.2.2.2.1),.c (.int .i64 z.2.2.2.2.2.2.1),.c (.int .i64 z.2.2.2.2.2.2.2.1),.c (.int .i64 z.2.2.2.2.2.2.2.2.1),.c (.int .i64 z.2.2.2.2.2.2.2.2.2.1),.c (.int .i64 z.2.2.2.2.2.2.2.2.2.2)]
def zC (z:ZT):Array Value:=#[.string z.1,.int .i64 z.2.1,.int .i64 z.2.2.1,.int .i64 z.2.2.2.1,.int .i64 z.2.2.2.2.1,.int .i64 z.2.2.2.2.2.1,.int .i64 z.2.2.2.2.2.2.1,.int .i64 z.2.2.2.2.2.2.2.1,.int .i64 z.2.2.2.2.2.2.2.2.1,.int .i64 z.2.2.2.2.2.2.2.2.2.1,.int .i64 z.2.2.2.2.2.2.2.2.2.2]
def dV (d:DT):V:=.agg [.c (.int .i64 d.1),.c (.int .i64 d.2.1),.c (.int .i64 d.2.2.1),.c (.int .i64 d.2.2.2.1),.c (.int .i64 d.2.2.2.2.1),.c (.int .i64 d.2.2.2.2.2.1),.c (.int .i64 d.2.2.2.2.2.2)]
def dC (d:DT):Array Value:=#[.int .i64 d.1,.int .i64 d.2.1,.int .i64 d.2.2.1,.int .i64 d.2.2.2.1,.int .i64 d.2.2.2.2.1,.int .i64 d.2.2.2.2.2.1,.int .i64 d.2.2.2.2.2.2]
def rV (r:RT):V:=.agg [.c (.int .i64 r.1),.c (.int .i64 r.2.1),.c (.int .i64 r.2.2.1),.c (.int .i64 r.2.2.2.1),.c (.bool r.2.2.2.2.1),.c (.sl (qak.encL r.2.2.2.2.2.1)),.c (.sl (qak.encL r.2.2.2.2.2.2.1)),.c (.sl (qak.encL r.2.2.2.2.2.2.2))]
def rC (r:RT) (s1 s2 s3:Value):Array Value:=#[.int .i64 r.1,.int .i64 r.2.1,.int .i64 r.2.2.1,.int .i64 r.2.2.2.1,.bool r.2.2.2.2.1,s1,s2,s3]
noncomputable def pZval (z:ZT):Option (Int×Int):=zval_s z.1 z.2.1 z.2.2.1 z.2.2.2.1 z.2.2.2.2.1 z.2.2.2.2.2.1 z.2.2.2.2.2.2.1 z.2.2.2.2.2.2.2.1 z.2.2.2.2.2.2.2.2.1 z.2.2.2.2.2.2.2.2.2.1 z.2.2.2.2.2.2.2.2.2.2
noncomputable def pZinst (z:ZT) (d:DT):Option ((Nat×(Int×Int))×List Int):=qyn z.1 z.2.1 z.2.2.1 z.2.2.2.1 z.2.2.2.2.1 z.2.2.2.2.2.1 z.2.2.2.2.2.2.1 z.2.2.2.2.2.2.2.1 z.2.2.2.2.2.2.2.2.1 z.2.2.2.2.2.2.2.2.2.1 z.2.2.2.2.2.2.2.2.2.2 d.1 d.2.1 d.2.2.1 d.2.2.2.1 d.2.2.2.2.1 d.2.2.2.2.2.1 d.2.2.2.2.2.2
noncomputable def pRval (r:RT):Option (Int×Int):=rval_s r.1 r.2.1 r.2.2.1 r.2.2.2.1 r.2.2.2.2.1 r.2.2.2.2.2.1 r.2.2.2.2.2.2.1 r.2.2.2.2.2.2.2
noncomputable def pFits (r:RT) (s d:DT) (k:Int):Option Bool:=fits_s r.1 r.2.1 r.2.2.1 r.2.2.2.1 r.2.2.2.2.1 r.2.2.2.2.2.1 r.2.2.2.2.2.2.1 r.2.2.2.2.2.2.2 s.1 s.2.1 s.2.2.1 s.2.2.2.1 s.2.2.2.2.1 s.2.2.2.2.2.1 s.2.2.2.2.2.2 d.1 d.2.1 d.2.2.1 d.2.2.2.1 d.2.2.2.2.1 d.2.2.2.2.2.1 d.2.2.2.2.2.2 k
noncomputable def pDinst (d:DT):Option (Int×(Int×Int)):=q9r d.1 d.2.1 d.2.2.1 d.2.2.2.1 d.2.2.2.2.1 d.2.2.2.2.2.1 d.2.2.2.2.2.2
theorem q6i {f:FuncId} {args:List V} {res:V×List B} (h:Call Try.prog lv X0 f args=some res):CallOk Try.prog f args res:=q9 Try.prog lv X0 qjz X0_ok h
section
variable {w:World} (hG:GW w)
include hG
theorem q6c (a b:Int):Calls Try.prog 7 #[.int .i64 a,.int .i64 b] w fun e w'=>e=.returned (.agg #[.int .i64 a,.int .i64 b])∧Bel w w' :=
 q6k (x:=.agg [.c (.int .i64 a),.c (.int .i64 b)]) (args:=[.c (.int .i64 a),.c (.int .i64 b)]) (q6i (qbw (q4a (code:=a) (at_:=b) rfl))) rfl rfl hG
theorem c_none:Calls Try.prog 13 #[] w fun e w'=>e=.returned (.agg #[.int .i64 0,.int .i64 0])∧Bel w w' :=
 q6k (x:=.agg [.c (.int .i64 0),.c (.int .i64 0)]) (args:=[]) (us:=[]) (q6i (qbw (q4y rfl))) rfl rfl hG
theorem q6b (a b:Int):Calls Try.prog 9 #[.agg #[.int .i64 a,.int .i64 b]] w fun e w'=>e=.returned (.bool (a != 0))∧Bel w w' :=
 q6k (x:=.c (.bool (a != 0))) (args:=[.agg [.c (.int .i64 a),.c (.int .i64 b)]]) (q6i (qbw (q44 (f_Code:=a) (f_Index:=b) rfl))) rfl rfl hG
theorem c_time {t:Int} {q:Bool} (h:q55 t=some q):Calls Try.prog 17 #[.int .i64 t] w fun e w'=>e=.returned (.bool q)∧Bel w w' :=
 q6k (x:=.c (.bool q)) (args:=[.c (.int .i64 t)]) (q6i (qbw h)) rfl rfl hG
theorem c_zval {z:ZT} {f:Int×Int} (h:pZval z=some f):Calls Try.prog 10 #[.agg (zC z)] w fun e w'=>e=.returned (.agg #[.int .i64 f.1,.int .i64 f.2])∧Bel w w' :=
 q6k (x:=.agg [.c (.int .i64 f.1),.c (.int .i64 f.2)]) (args:=[zV z]) (q6i (qbw h)) rfl rfl hG
theorem q6a {d:DT} {n:Int} {f:Int×Int} (h:pDinst d=some (n,f)):Calls Try.prog 48 #[.agg (dC d)] w fun e w'=>e=.returned (.tuple #[.int .i64 n,.agg #[.int .i64 f.1,.int .i64 f.2]])∧Bel w w' :=
 q6k (x:=.tup [.c (.int .i64 n),.agg [.c (.int .i64 f.1),.c (.int .i64 f.2)]]) (args:=[dV d]) (q6i (qbw h)) rfl rfl hG
theorem q69 {t:Int} {d:DT} {f:Int×Int} (h:q7l t 0=some (d,f)):Calls Try.prog 53 #[.int .i64 t,.int .i64 0] w fun e w'=>e=.returned (.tuple #[.agg (dC d),.agg #[.int .i64 f.1,.int .i64 f.2]])∧Bel w w' :=
 q6k (x:=.tup [dV d,.agg [.c (.int .i64 f.1),.c (.int .i64 f.2)]]) (args:=[.c (.int .i64 t),.c (.int .i64 0)]) (q6i (qbw h)) rfl rfl hG
theorem c_rval {r:RT} {f:Int×Int} (h:pRval r=some f) (Z:ZMap) (hZ:∀ b o u,Z b o=some u→w.cell? ⟨b,o,none⟩=some u) {u:Value} (hr:Rep Z (fun _ _=>none) noM u (rV r)):Calls Try.prog 37 #[u] w fun e w'=>e=.returned (.agg #[.int .i64 f.1,.int .i64 f.2])∧Bel w w' :=
 q6l (x:=.agg [.c (.int .i64 f.1),.c (.int .i64 f.2)]) (args:=[rV r]) (q6i (qbw h)) rfl hG Z hZ rfl (fun i u x hu hx=>by
  match i with
  |0=>simp at hu hx;subst hu hx;exact hr
  |i+1=>simp at hu)
theorem c_fits {r:RT} {s d:DT} {k:Int} {q:Bool} (h:pFits r s d k=some q) (Z:ZMap) (hZ:∀ b o u,Z b o=some u→w.cell? ⟨b,o,none⟩=some u) {u:Value} (hr:Rep Z (fun _ _=>none) noM u (rV r)) :
  Calls Try.prog 54 #[u,.agg (dC s),.agg (dC d),.int .i64 k] w fun e w'=>e=.returned (.bool q)∧Bel w w' :=
 q6l (x:=.c (.bool q)) (args:=[rV r,dV s,dV d,.c (.int .i64 k)]) (q6i (qbw h)) rfl hG Z hZ rfl (fun i u x hu hx=>by
  match i with
  |0=>simp at hu hx;subst hu hx;exact hr
  |1=>simp at hu hx;subst hu hx;exact q10 rfl
  |2=>simp at hu hx;subst hu hx;exact q10 rfl
  |3=>simp at hu hx;subst hu hx;exact q10 rfl
  |i+4=>simp at hu)
def InstV (w:World) (v:Value) (l:List Int):Prop:=(l=[]∧∃ A c,v=.slice A 0 c)∨∃ t r g c,l=t::r∧v=.slice (some ⟨g,0,none⟩) l.length c∧w.cell? ⟨g,0,none⟩=some (.int .i64 t)
theorem q6d {z:ZT} {d:DT} {n:Nat} {f:Int×Int} {l:List Int} (h:pZinst z d=some ((n,f),l)):Calls Try.prog 36 #[.agg (zC z),.agg (dC d)] w fun e w'=>∃ v,e=.returned (.tuple #[v,.agg #[.int .i64 f.1,.int .i64 f.2]])∧Bel w w'∧InstV w' v l:=by
 have hc:CallOk Try.prog 36 [zV z,dV d] (.tup [.row 0 n,.agg [.c (.int .i64 f.1),.c (.int .i64 f.2)]],[.row (qak.encL l)]):=q6i (qbw h)
 refine (hc.2.2 w (fun _ _=>none) (fun _ _=>none) _ hG (fun _ _ _ h=>by cases h) (fun _ _ _ h=>by cases h) rfl ?_).mono fun e w'=>?_
 ·intro i u x hu hx
  match i with
  |0=>simp at hu hx;subst hu hx;exact q10 rfl
  |1=>simp at hu hx;subst hu hx;exact q10 rfl
  |i+2=>simp at hu
 ·rintro ⟨cv,Z',m',rfl,_,R,r,_⟩
  cases r with
  |tup cs _ hl hr =>
  have h2:cs.size=2:=by simpa using hl
  have e0:cs=#[cs[0]'(by omega),cs[1]'(by omega)]:=by
   apply Array.ext (by simpa using h2)
   intro i h1 h2
   match i,h2 with
   |0,_=>rfl
   |1,_=>rfl
  have r0:=hr 0 _ _ (Array.getElem?_eq_getElem (by omega)) rfl
  have r1:=hr 1 _ _ (Array.getElem?_eq_getElem (by omega)) rfl
  generalize cs[0]'(by omega)=v at r0 e0
  generalize cs[1]'(by omega)=v1 at r1 e0
  subst e0
  have e1:v1=.agg #[.int .i64 f.1,.int .i64 f.2]:=qz r1 rfl
  subst e1
  refine ⟨v,rfl,qxr.1 R.bel,?_⟩
  have hrow:=R.row 0 (qak.encL l) rfl
  have nil:∀ {l:List Int},qak.encL l=[]→l=[]:=fun e=>List.map_eq_nil_iff.1 e
  cases r0 with
  |row _ _ A c hm hA =>
   rcases hrow with ⟨h0,h1⟩|⟨g,n1,c1,k,h0,hat⟩
   ·rw [hm] at h0
    injection h0 with h0;injection h0 with a1 a2 a3
    subst a2
    exact .inl ⟨nil h1,_,_,rfl⟩
   ·rw [hm] at h0
    injection h0 with h0;injection h0 with a1 a2 a3
    subst a1 a2 a3
    have hln:l.length=n:=by have:=hat.len;simpa using this
    subst hln
    cases l with
    |nil=>exact .inl ⟨rfl,_,_,rfl⟩
    |cons t r =>
     have hk:k=1:=(hat.each (qak.enc t) (by simp [EC.encL])).symm
     subst hk
     obtain ⟨ty,fz,cur,hv,_,_,hcell⟩:=hat.ex
     obtain ⟨u,a0,b0⟩:=hcell 0 _ 0 (.int .i64 t) (by simp [EC.encL];rfl) rfl
     cases b0
     refine .inr ⟨t,r,g,c,rfl,rfl,?_⟩
     simp only [World.cell?,hv]
     simpa using a0
  |row0 _ A hm =>
   rcases hrow with ⟨h0,h1⟩|⟨g,n1,c1,k,h0,hat⟩
   ·exact .inl ⟨nil h1,_,_,rfl⟩
   ·rw [hm] at h0;cases h0
end
theorem qyw (W:World) (o:Obj) {k:Nat} (h:k=W.heap.size):(W.alloc o).heap[k]?=some o:=by subst h;exact World.alloc_heap_new W o
theorem qyx {W:World} {x:Obj} (o:Obj) {k:Nat} (h:W.heap[k]?=some x):(W.alloc o).heap[k]?=some x:=(Below.heap_alloc W o k (Array.getElem?_eq_some_iff.1 h).1).trans h
theorem qyy {W:World} {k o:Nat} {cs:Array Value} {t:TypeId} {fz:Nat×Nat} (h:W.heap[k]?=some (.cells cs t fz)):W.cell? ⟨k,o,none⟩=cs[o]?:=by simp [World.cell?,h]
variable {F:Fence} {n:Nat} {P:Program}
def recL (fn:FuncId) (tmps:Array Value) (ps:Array Tmp) (assign body:Code) (D:Nat) (st:LoopState) (pe:Option Code):Loop :=
 { state:=st,pending:=pe,fn,tmps,params:=ps,assign,body,defers:=D }
theorem qo7 {g:Operand} {ps:Array Tmp} {assign body:Code} {Q:Exit→Act→World→Prop} {a:Act} {w:World} (hro:F.round=none) (h1:1≤n) {gf:Nat} {lb:Array Value}
  (hg:a.eval g=.func (.func gf) #[] lb) (hFg:F.fn gf) (eg:∀ args w,(callFunc gf args).run P w=.ok (.enter gf args) w)
  (h:∀ fn,F.fn fn→CallsIn F (n - 1) P gf ((#[Value.func (Fn.yield (w.heap.size+1)) #[] #[]]:Array Value)++lb) ((w.alloc (.deferred (some []))).alloc (.loop (recL fn a.tmps ps assign body w.heap.size .ready none)))
   (rangePost F n P (w.heap.size+1) Q { a with defers:=[{ target:=.collected w.heap.size,args:=#[] }]++a.defers })) :
  (Code.rangeFunc g ps assign body).wpIn F n P Q a w:=by
 refine wpIn_rangeFunc ?_
 intro fn hfn
 rw [hro]
 have h2:=h fn hfn
 obtain ⟨W1,hW1⟩:∃ W1,W1=(w.alloc (.deferred (some []))).alloc (.loop (recL fn a.tmps ps assign body w.heap.size .ready none)):=⟨_,rfl⟩
 rw [←hW1] at h2
 refine ⟨w.heap.size+1,[{ target:=.collected w.heap.size,args:=#[] }],W1,{ target:=.fn (.func gf) lb,args:=#[.func (.yield (w.heap.size+1)) #[] #[]] },W1,gf,
  #[.func (.yield (w.heap.size+1)) #[] #[]]++lb,W1,?_,?_,?_,?_,fun _=>h1,?_⟩
 ·rw [hW1];exact run_enterLoop_outer _ _ _ _ _
 ·simp only [resolve,hg]
  simp [go_sem]
 ·intro f' hf';simp [Target.leads] at hf';subst hf';exact hFg
 ·simp [invoke,go_sem,eg]
 ·exact h2
def rndPost (l:Nat) (rec:LoopState→Option Code→Loop) (R:Ending→World→Prop):Exit→Act→World→Prop
 |.normal,_,w=>w.heap[l]?=some (.loop (rec .busy none))∧R (.returned (.bool true)) (w.putObj l (.loop (rec .ready none)))
 |.exit id,_,w=>w.heap[l]?=some (.loop (rec .busy none))∧R (.returned (.bool false)) (w.putObj l (.loop (rec .done (some (.exit id)))))
 |.ret,_,w=>w.heap[l]?=some (.loop (rec .busy none))∧R (.returned (.bool false)) (w.putObj l (.loop (rec .done (some .ret))))
 |_,_,_=>False
def AtW (W:World) (p:World→Prop):Prop:=∀ W2,W2=W→p W2
theorem qy7 {m l:Nat} {fn:FuncId} {tmps:Array Value} {ps:Array Tmp} {assign body:Code} {D:Nat} {args:Array Value} {W:World} {R:Ending→World→Prop} (hfn:F.fn fn)
  (hl:W.heap[l]?=some (.loop (recL fn tmps ps assign body D .ready none))) (hps:args.size=ps.size)
  (h:assign.wpIn (F.inRound l) m P (Exit.then (fun a₁ w₁=>w₁=W∧AtW (W.putObj l (.loop (recL fn tmps ps assign body D .busy none))) fun W2 =>
    body.wpIn (F.inRound l) m P (rndPost l (recL fn tmps ps assign body D) R) a₁ W2) (fun _ _ _=>False))
   { tmps:=(ps.zip args).foldl (fun t (p,v)=>t.setIfInBounds p v) tmps,defers:=[] } W):YieldAt F m P l args W R:=by
 have hy:=run_yield (P:=P) (args:=args) hl hps
 refine ⟨fn,_,assign,body,hy,roundIn_of_wpIn hfn (wpIn_mono h ?_)⟩
 intro e a w hq
 cases e with
 |normal =>
  obtain ⟨h1,h2⟩:=hq
  subst h1
  refine ⟨_,run_beginRound hl rfl,wpIn_mono (h2 _ rfl) ?_⟩
  intro e2 a2 w2 hq2
  cases e2 with
  |normal=>exact ⟨_,_,run_endRound none hq2.1,hq2.2⟩
  |exit id=>exact ⟨_,_,run_endRound (some (.exit id)) hq2.1,hq2.2⟩
  |ret=>exact ⟨_,_,run_endRound (some .ret) hq2.1,hq2.2⟩
  |goto t=>exact hq2.elim
  |panic c=>exact hq2.elim
  |outgrown=>exact hq2.elim
 |exit id=>exact hq.elim
 |goto t=>exact hq.elim
 |ret=>exact hq.elim
 |panic c=>exact hq.elim
 |outgrown=>exact hq.elim
end Go.Proofs.Ytjlkjiifkganoaa
