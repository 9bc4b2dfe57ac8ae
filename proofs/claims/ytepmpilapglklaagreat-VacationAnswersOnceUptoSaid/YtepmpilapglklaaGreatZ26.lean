/- A script that the caller hands in, opened; what its bulk bounds. -/
import Derived.Test.YtepmpilapglklaaGreatZ25
import Derived.Test.YtepmpilapglklaaGreatRows
import Derived.Shelf.Strings.Builder1
import Derived.Shelf.Strings.Builder2
import Derived.Shelf.Small.Utf8
import Derived.Shelf.Small.Strs
import Derived.Shelf.Strings.BuilderF
import Derived.Shelf.Strings.Builder2Cap
import Derived.Shelf.Strings.Search1
import Derived.Shelf.Strings.Search2
import Derived.Shelf.Strings.Search3
import Derived.Shelf.Strings.Cut
import Derived.Shelf.Strings.Count
import Derived.Shelf.LaysM
import Derived.Shelf.Strings.Shaped
import Derived.Shelf.Strings.Prefix
import Derived.Shelf.Strings.Runes
import Derived.Shelf.Strings.IndexAny
import Derived.Shelf.Strings.AsciiSet
import Derived.Shelf.Strings.IndexAnyAll
import Derived.Test.YtepmpilapglklaaGreatZ01
import Derived.Test.YtepmpilapglklaaGreatChecked
namespace Go.Proofs.YtepmpilapglklaaGreat
open Go.ChangeShapes Go.WideShapes Go.ChangeAt Go.RowKit Go.Deep
theorem q71 {H:Type} (d:DataW H):1≤Rows.uptoBulk d:=by
 cases d with
 |lit l=>cases l <;> simp [Rows.uptoBulk]
 |nil=>simp [Rows.uptoBulk]
 |ptr d=>simp [Rows.uptoBulk]
 |slice elems spare=>simp [Rows.uptoBulk]
 |agg parts=>simp [Rows.uptoBulk]
 |iface t d=>simp [Rows.uptoBulk]
 |map entries=>simp [Rows.uptoBulk]
 |held h=>simp [Rows.uptoBulk]
theorem q6z {H:Type}:∀ l:List (DataW H),l.length≤Rows.uptoBulkAll l
 |[]=>by simp
 |x::r=>by have:=q71 x;have:=q6z r;simp only [Rows.uptoBulkAll,List.length_cons];omega
theorem q70 {H:Type} {d:DataW H}:∀ {l:List (DataW H)},d∈l→Rows.uptoBulk d≤Rows.uptoBulkAll l
 |x::r,h=>by
  simp only [Rows.uptoBulkAll]
  rcases List.mem_cons.1 h with rfl|h
  ·omega
  ·have:=q70 h;omega
theorem q72 {H:Type} {l:List (DataW H)} (hk:Rows.uptoSmall H l=true):Rows.uptoBulkAll l≤1048576:=of_decide_eq_true hk
def Zw (w:World):ZMap:=fun b o=>w.cell? ⟨b,o,none⟩
def RepL (Z:ZMap):List Value→List C→Prop
 |[],[]=>True
 |u::us,x::xs=>RepC Z u x∧RepL Z us xs
 |_,_=>False
theorem RepL.len {Z:ZMap}:∀ {us:List Value} {xs:List C},RepL Z us xs→us.length=xs.length
 |[],[],_=>rfl
 |u::us,x::xs,h=>by simp [RepL.len h.2]
 |[],_::_,h=>h.elim
 |_::_,[],h=>h.elim
theorem RepL.get {Z:ZMap}:∀ {us:List Value} {xs:List C},RepL Z us xs→∀ (i:Nat) u x,us[i]?=some u→xs[i]?=some x→RepC Z u x
 |[],[],_,i,u,x,h,_=>by simp at h
 |u::us,x::xs,h,i,u',x',h1,h2=>by
  cases i with
  |zero=>simp at h1 h2;subst h1 h2;exact h.1
  |succ i=>simp at h1 h2;exact RepL.get h.2 i u' x' h1 h2
 |[],_::_,h,_,_,_,_,_=>h.elim
 |_::_,[],h,_,_,_,_,_=>h.elim
theorem RepL.agg {Z Y:ZMap} {m:Nat→Option Value} {us:List Value} {xs:List C} (h:RepL Z us xs):Rep Z Y m (.agg us.toArray) (.agg (xs.map .c)):=by
 refine .agg _ _ (by simp [h.len]) ?_ ?_
 ·intro u hu
  obtain ⟨i,hi,rfl⟩:=List.getElem_of_mem (by simpa using hu)
  have hx:i<xs.length:=by rw [←h.len];exact hi
  exact (h.get i _ _ (List.getElem?_eq_getElem hi) (List.getElem?_eq_getElem hx)).one
 ·intro i u x hu hx
  rw [List.getElem?_map] at hx
  cases hy:xs[i]? with
  |none=>rw [hy] at hx;cases hx
  |some y =>
   rw [hy] at hx
   injection hx with hx;subst hx
   exact .c (h.get i u y (by simpa using hu) hy)
theorem qcx {α:Type} {k:Nat}:∀ {css:List (List α)},(∀ cs∈css,cs.length=k)→∀ (i j:Nat) cs,css[i]?=some cs→j<k→css.flatten[i*k+j]?=cs[j]?
 |[],_,i,j,cs,h,_=>by simp at h
 |c::css,hk,i,j,cs,h,hj=>by
  have hc:c.length=k:=hk c (by simp)
  cases i with
  |zero =>
   simp at h;subst h
   rw [List.flatten_cons,List.getElem?_append_left (by omega)]
   simp
  |succ i =>
   simp at h
   rw [List.flatten_cons,List.getElem?_append_right (by rw [hc,Nat.add_mul];omega),←qcx (fun d hd=>hk d (by simp [hd])) i j cs h hj]
   congr 1
   rw [hc,Nat.add_mul];omega
theorem rd_rep {w:World} {k n c:Nat} {A:Option Addr} {css:List (List Value)} {es:List (List C)} (hr:Rd w k A n c css.flatten) (hn:css.length=n) (hN:A=none→c=0) (hk:0<k) (hcs:∀ cs∈css,cs.length=k) (hl:es.length=css.length)
  (he:∀ (i:Nat) cs e,css[i]?=some cs→es[i]?=some e→RepL (Zw w) cs e):RepC (Zw w) (.slice A n c) (.sl es):=by
 have helen:∀ e∈es,e.length=k:=fun e hm=>by
  obtain ⟨i,hi,rfl⟩:=List.getElem_of_mem hm
  have hx:i<css.length:=by omega
  rw [←(he i _ _ (List.getElem?_eq_getElem hx) (List.getElem?_eq_getElem hi)).len]
  exact hcs _ (List.getElem_mem hx)
 by_cases h0:es=[]
 ·subst h0
  have:n=0:=by rw [←hn,←hl];rfl
  exact .sl A n c k 0 0 (fun _=>.nilFunc) [] (by simp [this]) hr.le hr.2.2.1 (by simp) (by simp) (by simp) (by simp) hN
 ·have hn0:0<n*k:=by
   have:0<es.length:=List.length_pos_iff.2 h0
   exact Nat.mul_pos (by omega) hk
  obtain ⟨b,off,hA,_,hcell⟩:=hr.place hn0
  have hget:∀ (i:Nat) (e:List C) (j:Nat) (x:C),es[i]?=some e→e[j]?=some x→∃ u,css.flatten[i*k+j]?=some u∧RepC (Zw w) u x:=by
   intro i e j x h1 h2
   have hi:i<css.length:=by
    have:=(List.getElem?_eq_some_iff.1 h1).1
    omega
   have hj:j<k:=by
    rw [←helen e (List.mem_of_getElem? h1)]
    exact (List.getElem?_eq_some_iff.1 h2).1
   have hcl:=hcs _ (List.getElem_mem hi)
   have hu:css[i][j]?=some (css[i][j]'(by omega)):=List.getElem?_eq_getElem _
   exact ⟨_,by rw [qcx hcs i j css[i] (List.getElem?_eq_getElem hi) hj,hu],(he i _ e (List.getElem?_eq_getElem hi) h1).get j _ x hu h2⟩
  refine .sl A n c k b off (fun j=>(css.flatten[j]?).getD .nilFunc) es (by omega) hr.le hr.2.2.1 helen (fun _=>hA) ?_ ?_ hN
  ·intro i e j x h1 h2
   obtain ⟨u,hu,_⟩:=hget i e j x h1 h2
   simp only [hu,Option.getD_some]
   exact hcell _ _ hu
  ·intro i e j x h1 h2
   obtain ⟨u,hu,hr'⟩:=hget i e j x h1 h2
   simp only [hu,Option.getD_some]
   exact hr'
theorem qmo {H:Type} {enc:TypeId×Value→H} {P:Program} {w:World} {base:Nat} {spare:Nat→Bool} {held:Bool} {t e:TypeId} {fuel n c:Nat} {A:Option Addr} {x:DataW H×List MemPlace} (ht:P.underlying t=some (.slice e))
  (h:DataW.trod enc P w base spare held fuel t [.slice A n c]=some x):A=none→c=0:=by
 intro hA
 subst hA
 rcases open_slice ht h with ⟨hcs,_⟩|⟨a,len,cap,m,n',D,Pl,hcs,_⟩
 ·injection hcs with hcs
  injection hcs
 ·injection hcs with hcs
  injection hcs with h1
  cases h1
section
variable {H:Type} {enc:TypeId×Value→H} {P:Program}
theorem qne {w:World} {base:Nat} {spare:Nat→Bool} {held:Bool} {t e:TypeId} {k fuel:Nat} {v:Value} {x:DataW H×List MemPlace} (ht:P.underlying t=some (.slice e)) (hC:P.cellsOf e=k) (hk:0<k)
  (h:DataW.trod enc P w base spare held fuel t [v]=some x) (hone:∀ fuel cs y,Rows.uptoBulk y.1<Rows.uptoBulk x.1→DataW.trod enc P w base spare held fuel e cs=some y→∀ u∈cs,u.oneCell'=true) :
  ∃ A n c css ds,v=.slice A n c∧Rd w k A n c (List.flatten css)∧css.length=n∧ds.length=n∧Rows.uptoBulkAll ds+1≤Rows.uptoBulk x.1∧∀ (i:Nat) cs d,css[i]?=some cs→ds[i]?=some d→cs.length=k∧∃ fuel pl,DataW.trod enc P w base spare held fuel e cs=some (d,pl):=by
 rcases open_slice ht h with ⟨hcs,_⟩|⟨a,len,cap,m,n,D,Pl,hcs,_,hl,hm,hmm,hxx,hi⟩
 ·injection hcs with hcs
  exact ⟨none,0,0,[],[],hcs,Rd.nil,rfl,rfl,by have:=q71 x.1;simp only [Rows.uptoBulkAll];omega,by simp⟩
 ·injection hcs with hcs
  have hlm:len≤m:=by rw [hmm];split <;> omega
  have hsum:Rows.uptoBulkAll ((List.range len).map D)+1≤Rows.uptoBulk x.1:=by rw [hxx];simp only [Rows.uptoBulk];omega
  have hDb:∀ i,i<len→Rows.uptoBulk (D i)<Rows.uptoBulk x.1:=fun i hi'=>by
   have:=q70 (List.mem_map.2 ⟨i,List.mem_range.2 hi',rfl⟩:D i∈(List.range len).map D)
   omega
  have hex:∀ i,i<len→∃ cs',w.cells? base (a.add (i*k)) k=some cs'∧DataW.trod enc P w base spare held n e cs'=some (D i,Pl i):=fun i hi'=>by
   have:=hi i (by omega)
   rwa [hC] at this
  obtain ⟨C,hCC⟩:=choose_lt (α:=List Value) (p:=fun i cs'=>w.cells? base (a.add (i*k)) k=some cs'∧DataW.trod enc P w base spare held n e cs'=some (D i,Pl i)) hex
  have hlen:∀ i,i<len→(C i).length=k:=fun i hi'=>(World.cells?_some (hCC i hi').1).2.1
  have hcell:∀ i,i<len→∀ j,j<k→w.cell? (a.add (i*k+j))=(C i)[j]?:=fun i hi' j hj=>by
   have:=(World.cells?_some (hCC i hi').1).2.2 j hj
   rwa [Go.Deep.add_add] at this
  have hfl:∀ m',m'≤len→(((List.range m').map C).flatten).length=m'*k:=by
   intro m' hm'
   induction m' with
   |zero=>simp
   |succ m' ih =>
    rw [List.range_succ,List.map_append,List.flatten_append,List.length_append,ih (by omega)]
    simp [hlen m' (by omega),Nat.add_mul]
  have hget:∀ m',m'≤len→∀ i j,i<m'→j<k→(((List.range m').map C).flatten)[i*k+j]?=(C i)[j]?:=by
   intro m' hm'
   induction m' with
   |zero=>intro i j hi';omega
   |succ m' ih =>
    intro i j hi' hj
    rw [List.range_succ,List.map_append,List.flatten_append]
    rcases Nat.lt_or_ge i m' with h'|h'
    ·rw [List.getElem?_append_left (by
      rw [hfl m' (by omega)]
      have:(i+1)*k≤m'*k:=Nat.mul_le_mul_right k h'
      rw [Nat.add_mul] at this
      omega)]
     exact ih (by omega) i j h' hj
    ·have:i=m':=by omega
     subst this
     rw [List.getElem?_append_right (by rw [hfl i (by omega)];omega),hfl i (by omega)]
     simp
  refine ⟨some a,len,cap,(List.range len).map C,(List.range len).map D,hcs,⟨by rw [hfl len (Nat.le_refl _)],hl,hm,?_,?_⟩,by simp,by simp,hsum,?_⟩
  ·intro u hu
   obtain ⟨cs,hcs',hu'⟩:=List.mem_flatten.1 hu
   obtain ⟨i,hi',rfl⟩:=List.mem_map.1 hcs'
   exact hone n _ _ (hDb i (by simpa using hi')) (hCC i (by simpa using hi')).2 u hu'
  ·intro hpos
   have hl0:0<len:=Nat.pos_of_mul_pos_right hpos
   have h00:=hcell 0 hl0 0 hk
   have hc0:(C 0)[0]?=some ((C 0)[0]'(by rw [hlen 0 hl0];exact hk)):=List.getElem?_eq_getElem _
   rw [hc0] at h00
   have hadd:(a.add (0*k+0))=a:=by simp [Addr.add]
   rw [hadd] at h00
   obtain ⟨b,off,spot⟩:=a
   have hsp:spot=none:=by
    cases spot with
    |none=>rfl
    |some s =>
     unfold World.cell? at h00
     split at h00 <;> simp at h00
   subst hsp
   refine ⟨b,off,rfl,?_,?_⟩
   ·rcases Nat.lt_or_ge b w.heap.size with hlt|hge
    ·exact hlt
    ·unfold World.cell? at h00
     rw [Array.getElem?_eq_none hge] at h00
     cases h00
   ·intro j u hu
    have hjl:j<len*k:=by
     rw [←hfl len (Nat.le_refl _)]
     rcases Nat.lt_or_ge j ((List.range len).map C).flatten.length with h'|h'
     ·exact h'
     ·rw [List.getElem?_eq_none h'] at hu;cases hu
    have hdm:j / k*k+j % k=j:=by rw [Nat.mul_comm];exact Nat.div_add_mod j k
    have hdl:j / k<len:=(Nat.div_lt_iff_lt_mul hk).2 hjl
    have h1:=hcell (j / k) hdl (j % k) (Nat.mod_lt _ hk)
    have h2:=hget len (Nat.le_refl _) (j / k) (j % k) hdl (Nat.mod_lt _ hk)
    rw [hdm] at h1 h2
    rw [h2] at hu
    rw [hu] at h1
    rw [←h1]
    unfold Addr.add
    split
    ·rename_i h0;subst h0;rfl
    ·rfl
  ·intro i cs d h1 h2
   have hi':i<len:=by
    have:=(List.getElem?_eq_some_iff.1 h1).1
    simpa using this
   rw [List.getElem?_map,List.getElem?_range hi'] at h1 h2
   simp only [Option.map_some,Option.some.injEq] at h1 h2
   subst h1 h2
   exact ⟨hlen i hi',n,_,(hCC i hi').2⟩
end
def All2 {α β:Type} (R:α→β→Prop):List α→List β→Prop
 |[],[]=>True
 |a::l,b::m=>R a b∧All2 R l m
 |_,_=>False
theorem q11 {α β:Type} {R:α→β→Prop}:∀ {l:List α} {m:List β},l.length=m.length→(∀ (i:Nat) a b,l[i]?=some a→m[i]?=some b→R a b)→All2 R l m
 |[],[],_,_=>trivial
 |a::l,b::m,h,hR=>⟨hR 0 a b rfl rfl,q11 (by simpa using h) fun i x y hx hy=>hR (i+1) x y hx hy⟩
 |[],_::_,h,_=>by cases h
 |_::_,[],h,_=>by cases h
theorem qoy {H:Type} {enc:TypeId×Value→H} {w:World} {t e:TypeId} {k fuel:Nat} {v:Value} {x:DataW H×List MemPlace} {τ:Type} (E:EC τ) (R:τ→DataW H→Prop) (ht:Tryz.prog.underlying t=some (.slice e)) (hC:Tryz.prog.cellsOf e=k) (hk:0<k)
  (h:DataW.trod enc Tryz.prog w 0 (fun _=>true) true fuel t [v]=some x)
  (hE:∀ fuel cs y,Rows.uptoBulk y.1<Rows.uptoBulk x.1→DataW.trod enc Tryz.prog w 0 (fun _=>true) true fuel e cs=some y→∃ a:τ,RepL (Zw w) cs (E.enc a)∧R a y.1) :
  ∃ (l:List τ) (ds:List (DataW H)),RepC (Zw w) v (.sl (E.encL l))∧Rows.uptoBulkAll ds+1≤Rows.uptoBulk x.1∧All2 R l ds:=by
 obtain ⟨A,n,c,css,ds,hv,hr,hn,hn',hsum,hcs⟩:=qne ht hC hk h (fun fuel cs y hb hy u hu=>by
  obtain ⟨a,ha,_⟩:=hE fuel cs y hb hy
  obtain ⟨i,hi,rfl⟩:=List.getElem_of_mem hu
  have hx:i<(E.enc a).length:=by rw [←ha.len];exact hi
  exact (ha.get i _ _ (List.getElem?_eq_getElem hi) (List.getElem?_eq_getElem hx)).one)
 subst hv
 haveI:Inhabited τ:=⟨E.dec []⟩
 have hall:∀ i,i<css.length→∃ a:τ,(∀ cs,css[i]?=some cs→RepL (Zw w) cs (E.enc a))∧(∀ d,ds[i]?=some d→R a d):=fun i hi=>by
  have hi':i<ds.length:=by omega
  obtain ⟨_,fuel,pl,hy⟩:=hcs i _ _ (List.getElem?_eq_getElem hi) (List.getElem?_eq_getElem hi')
  have hb:=q70 (List.getElem_mem hi')
  obtain ⟨a,ha,hra⟩:=hE fuel _ _ (by show Rows.uptoBulk ds[i]<_;omega) hy
  exact ⟨a,fun cs h=>by rw [List.getElem?_eq_getElem hi] at h;injection h with h;subst h;exact ha,fun d h=>by rw [List.getElem?_eq_getElem hi'] at h;injection h with h;subst h;exact hra⟩
 obtain ⟨F,hF⟩:=choose_lt (α:=τ) (n:=css.length) hall
 refine ⟨(List.range css.length).map F,ds,rd_rep hr hn (qmo ht h) hk (fun cs hc=>by
  obtain ⟨i,hi,rfl⟩:=List.getElem_of_mem hc
  exact (hcs i _ _ (List.getElem?_eq_getElem hi) (List.getElem?_eq_getElem (show i<ds.length by omega))).1) (by simp [EC.encL]) ?_,hsum,q11 (by simp;omega) ?_⟩
 ·intro i cs e h1 h2
  have hi:i<css.length:=(List.getElem?_eq_some_iff.1 h1).1
  rw [EC.encL,List.getElem?_map,List.getElem?_map,List.getElem?_range hi] at h2
  simp only [Option.map_some,Option.some.injEq] at h2
  subst h2
  exact (hF i hi).1 cs h1
 ·intro i a d h1 h2
  have hi:i<css.length:=by have:=(List.getElem?_eq_some_iff.1 h1).1;simpa using this
  rw [List.getElem?_map,List.getElem?_range hi] at h1
  simp only [Option.map_some,Option.some.injEq] at h1
  subst h1
  exact (hF i hi).2 d h2
end Go.Proofs.YtepmpilapglklaaGreat
namespace Go.Proofs.YtepmpilapglklaaGreat
open Go.ChangeShapes Go.WideShapes Go.ChangeAt Go.RowKit Go.Deep
theorem two {α:Type} {l:List α} (h:l.length=2):∃ a b,l=[a,b]:=by
 match l,h with
 |[a,b],_=>exact ⟨a,b,rfl⟩
theorem three {α:Type} {l:List α} (h:l.length=3):∃ a b c,l=[a,b,c]:=by
 match l,h with
 |[a,b,c],_=>exact ⟨a,b,c,rfl⟩
theorem five {α:Type} {l:List α} (h:l.length=5):∃ a b c d e,l=[a,b,c,d,e]:=by
 match l,h with
 |[a,b,c,d,e],_=>exact ⟨a,b,c,d,e,rfl⟩
section
variable {H:Type} {enc:TypeId×Value→H} {w:World}
theorem qq5 {a:ByteArray} {x:DataW H×List MemPlace} {q:List MemPlace} (h:x=(.lit (.string a.data.toList),q)):a.size+1=Rows.uptoBulk x.1:=by
 subst h
 simp only [Rows.uptoBulk,Array.length_toList]
 rfl
theorem qnd {fuel:Nat} {cs:List Value} {y:DataW H×List MemPlace} (hb:Rows.uptoBulk y.1≤2000000) (h:DataW.trod enc Tryz.prog w 0 (fun _=>true) true fuel 81 cs=some y) :
  ∃ a:S81,RepL (Zw w) cs (q9k.enc a)∧a.Address.size≤2000000:=by
 obtain ⟨xs,n,_,hx,hl,hxl,hf⟩:=DataW.trod_struct Tryz.underlying81 h
 have hc:Tryz.prog.cellsOf 81=2:=by kernel_rfl
 have c1:Tryz.prog.cellsOf 3=1:=by kernel_rfl
 have c2:Tryz.prog.cellsOf 9=1:=by kernel_rfl
 rw [hc] at hl
 obtain ⟨u0,u1,rfl⟩:=two hl
 obtain ⟨x0,x1,rfl⟩:=two hxl
 have h0:DataW.trod enc Tryz.prog w 0 (fun _=>true) true n 9 [u0]=some x0:=by have:=hf 0 _ rfl;simpa [c2] using this
 have h1:DataW.trod enc Tryz.prog w 0 (fun _=>true) true n 3 [u1]=some x1:=by have:=hf 1 _ rfl;simpa [c1] using this
 obtain ⟨a0,e0,z0,_⟩:=DataW.trod_string Tryz.underlying9 h0
 obtain ⟨a1,e1,_,_⟩:=DataW.trod_int Tryz.underlying3 h1
 injection e0 with e0;injection e1 with e1
 subst e0 e1
 have hs:=qq5 z0
 have hbulk:Rows.uptoBulk x0.1≤2000000:=by
  rw [hx] at hb
  simp only [Rows.uptoBulk,List.map_cons,Rows.uptoBulkAll] at hb
  omega
 refine ⟨⟨a0,a1⟩,?_,?_⟩
 ·rw [enc_81]
  exact ⟨.str _,.int _ _,trivial⟩
 ·show a0.size≤2000000
  omega
theorem qna {fuel:Nat} {cs:List Value} {y:DataW H×List MemPlace} (h:DataW.trod enc Tryz.prog w 0 (fun _=>true) true fuel 57 cs=some y) :
  ∃ a:S57,RepL (Zw w) cs (q9j.enc a)∧True:=by
 obtain ⟨xs,n,_,hx,hl,hxl,hf⟩:=DataW.trod_struct Tryz.underlying57 h
 have hc:Tryz.prog.cellsOf 57=2:=by kernel_rfl
 have c2:Tryz.prog.cellsOf 9=1:=by kernel_rfl
 rw [hc] at hl
 obtain ⟨u0,u1,rfl⟩:=two hl
 obtain ⟨x0,x1,rfl⟩:=two hxl
 have h0:DataW.trod enc Tryz.prog w 0 (fun _=>true) true n 9 [u0]=some x0:=by have:=hf 0 _ rfl;simpa [c2] using this
 have h1:DataW.trod enc Tryz.prog w 0 (fun _=>true) true n 9 [u1]=some x1:=by have:=hf 1 _ rfl;simpa [c2] using this
 obtain ⟨a0,e0,z0,_⟩:=DataW.trod_string Tryz.underlying9 h0
 obtain ⟨a1,e1,_,_⟩:=DataW.trod_string Tryz.underlying9 h1
 injection e0 with e0;injection e1 with e1
 subst e0 e1
 refine ⟨⟨a0,a1⟩,?_,trivial⟩
 rw [enc_57]
 exact ⟨.str _,.str _,trivial⟩
theorem qn9 {fuel:Nat} {cs:List Value} {y:DataW H×List MemPlace} (h:DataW.trod enc Tryz.prog w 0 (fun _=>true) true fuel 5 cs=some y) :
  ∃ a:Int,RepL (Zw w) cs (q9i.enc a)∧True:=by
 obtain ⟨a0,e0,_,_⟩:=DataW.trod_int Tryz.underlying5 h
 subst e0
 exact ⟨a0,⟨.int _ _,trivial⟩,trivial⟩
theorem q12 {R:S81→Prop}:∀ {l:List S81} {ds:List (DataW H)},All2 (fun a _=>R a) l ds→(∀ x∈l,R x)∧l.length=ds.length
 |[],[],_=>⟨by simp,rfl⟩
 |a::l,d::ds,h=>by
  obtain ⟨h1,h2⟩:=q12 h.2
  exact ⟨fun x hx=>by rcases List.mem_cons.1 hx with rfl|hx;exact h.1;exact h1 x hx,by simp [h2]⟩
 |[],_::_,h=>h.elim
 |_::_,[],h=>h.elim
theorem qz {α β:Type} {R:α→β→Prop}:∀ {l:List α} {m:List β},All2 R l m→l.length=m.length
 |[],[],_=>rfl
 |_::l,_::m,h=>by simp [qz h.2]
 |[],_::_,h=>h.elim
 |_::_,[],h=>h.elim
structure LOk (f:ByteArray) (rc:List S81) (bd:List Int):Prop where
 fr:f.size≤2000000
 rl:rc.length≤2000000
 ad:∀ x∈rc,x.Address.size≤2000000
 bl:bd.length≤2000000
set_option maxRecDepth 100000 in
theorem qnc {d:DataW H} {p:List MemPlace} {v:Value} (hv:∃ cs:Array Value,v=.agg cs∧cs.size=Tryz.prog.cellsOf 31) (hb:Rows.uptoBulk d≤1048576) (h:DataW.Trod enc Tryz.prog w 0 (fun _=>true) true 31 v d p) :
  ∃ (f:ByteArray) (rc:List S81) (e:ByteArray) (fs:List S57) (bd:List Int),Rep (Zw w) (fun _ _=>none) noM v (.agg [.c (.str f),.c (.sl (q9k.encL rc)),.c (.str e),.c (.sl (q9j.encL fs)),.c (.sl (q9i.encL bd))])∧LOk f rc bd∧fs.length≤1048576∧e.size≤1048576:=by
 obtain ⟨cs,rfl,hsz⟩:=hv
 obtain ⟨fuel,h⟩:=h
 obtain ⟨xs,n,_,hx,hl,hxl,hf⟩:=DataW.trod_struct Tryz.underlying31 h
 have hc:Tryz.prog.cellsOf 31=5:=by kernel_rfl
 have c1:Tryz.prog.cellsOf 25=3:=by kernel_rfl
 have c2:Tryz.prog.cellsOf 29=2:=by kernel_rfl
 have c3:Tryz.prog.cellsOf 9=1:=by kernel_rfl
 have c4:Tryz.prog.cellsOf 23=1:=by kernel_rfl
 have c5:Tryz.prog.cellsOf 26=1:=by kernel_rfl
 have c6:Tryz.prog.cellsOf 27=1:=by kernel_rfl
 rw [hc] at hl
 obtain ⟨l⟩:=cs
 obtain ⟨u0,u1,u2,u3,u4,rfl⟩:=five hl
 obtain ⟨x0,x1,rfl⟩:=two hxl
 have h0:DataW.trod enc Tryz.prog w 0 (fun _=>true) true n 25 [u0,u1,u2]=some x0:=by have:=hf 0 _ rfl;simpa [Value.cells,c1] using this
 have h1:DataW.trod enc Tryz.prog w 0 (fun _=>true) true n 29 [u3,u4]=some x1:=by have:=hf 1 _ rfl;simpa [Value.cells,c2] using this
 obtain ⟨ys,n1,_,hy,hyl,hyn,hg⟩:=DataW.trod_struct Tryz.underlying25 h0
 obtain ⟨zs,n2,_,hz,hzl,hzn,hk⟩:=DataW.trod_struct Tryz.underlying29 h1
 obtain ⟨y0,y1,y2,rfl⟩:=three hyn
 obtain ⟨z0,z1,rfl⟩:=two hzn
 have g0:DataW.trod enc Tryz.prog w 0 (fun _=>true) true n1 9 [u0]=some y0:=by have:=hg 0 _ rfl;simpa [c3] using this
 have g1:DataW.trod enc Tryz.prog w 0 (fun _=>true) true n1 23 [u1]=some y1:=by have:=hg 1 _ rfl;simpa [c4] using this
 have g2:DataW.trod enc Tryz.prog w 0 (fun _=>true) true n1 9 [u2]=some y2:=by have:=hg 2 _ rfl;simpa [c3] using this
 have k0:DataW.trod enc Tryz.prog w 0 (fun _=>true) true n2 26 [u3]=some z0:=by have:=hk 0 _ rfl;simpa [c5] using this
 have k1:DataW.trod enc Tryz.prog w 0 (fun _=>true) true n2 27 [u4]=some z1:=by have:=hk 1 _ rfl;simpa [c6] using this
 obtain ⟨a0,e0,b0,_⟩:=DataW.trod_string Tryz.underlying9 g0
 obtain ⟨a2,e2,b2,_⟩:=DataW.trod_string Tryz.underlying9 g2
 injection e0 with e0;injection e2 with e2
 subst e0 e2
 have hs0:=qq5 b0
 have hs2:=qq5 b2
 have hall:Rows.uptoBulk y0.1+Rows.uptoBulk y1.1+Rows.uptoBulk y2.1+Rows.uptoBulk z0.1+Rows.uptoBulk z1.1≤1048576:=by
  have ed:=congrArg Prod.fst hx
  simp only [List.map_cons,List.map_nil] at ed
  rw [ed,hy,hz] at hb
  simp only [Rows.uptoBulk,List.map_cons,List.map_nil,Rows.uptoBulkAll] at hb
  omega
 obtain ⟨rc,ds,r1,hsum,q1⟩:=qoy (k:=2) q9k (fun a _=>a.Address.size≤2000000) Tryz.underlying23 (by kernel_rfl) (by decide) g1 (fun fuel cs y hlt hy=>qnd (by omega) hy)
 obtain ⟨fs,ds',r3,hsum',q3⟩:=qoy (k:=2) q9j (fun _ _=>True) Tryz.underlying26 (by kernel_rfl) (by decide) k0 (fun fuel cs y hlt hy=>qna hy)
 obtain ⟨bd,ds2,r4,hsum2,q4⟩:=qoy (k:=1) q9i (fun _ _=>True) Tryz.underlying27 (by kernel_rfl) (by decide) k1 (fun fuel cs y hlt hy=>qn9 hy)
 obtain ⟨q5,q6⟩:=q12 q1
 have q7:=qz q3
 have q8:=qz q4
 have w1:=q6z ds
 have w2:=q6z ds'
 have w3:=q6z ds2
 refine ⟨a0,rc,a2,fs,bd,RepL.agg (us:=[.string a0,u1,.string a2,u3,u4]) (xs:=[.str a0,.sl (q9k.encL rc),.str a2,.sl (q9j.encL fs),.sl (q9i.encL bd)]) ⟨.str _,r1,.str _,r3,r4,trivial⟩,⟨by omega,by omega,q5,by omega⟩,by omega,by omega⟩
theorem qng {fuel:Nat} {cs:List Value} {y:DataW H×List MemPlace} (hb:Rows.uptoBulk y.1≤2000000) (h:DataW.trod enc Tryz.prog w 0 (fun _=>true) true fuel 44 cs=some y) :
  ∃ a:S44,RepL (Zw w) cs (q9h.enc a)∧a.Sender.size≤2000000:=by
 obtain ⟨xs,n,_,hx,hl,hxl,hf⟩:=DataW.trod_struct Tryz.underlying44 h
 have hc:Tryz.prog.cellsOf 44=2:=by kernel_rfl
 have c1:Tryz.prog.cellsOf 3=1:=by kernel_rfl
 have c2:Tryz.prog.cellsOf 9=1:=by kernel_rfl
 rw [hc] at hl
 obtain ⟨u0,u1,rfl⟩:=two hl
 obtain ⟨x0,x1,rfl⟩:=two hxl
 have h0:DataW.trod enc Tryz.prog w 0 (fun _=>true) true n 9 [u0]=some x0:=by have:=hf 0 _ rfl;simpa [c2] using this
 have h1:DataW.trod enc Tryz.prog w 0 (fun _=>true) true n 3 [u1]=some x1:=by have:=hf 1 _ rfl;simpa [c1] using this
 obtain ⟨a0,e0,z0,_⟩:=DataW.trod_string Tryz.underlying9 h0
 obtain ⟨a1,e1,_,_⟩:=DataW.trod_int Tryz.underlying3 h1
 injection e0 with e0;injection e1 with e1
 subst e0 e1
 have hs:=qq5 z0
 have hbulk:Rows.uptoBulk x0.1≤2000000:=by
  rw [hx] at hb
  simp only [Rows.uptoBulk,List.map_cons,Rows.uptoBulkAll] at hb
  omega
 refine ⟨⟨a0,a1⟩,?_,?_⟩
 ·rw [enc_44]
  exact ⟨.str _,.int _ _,trivial⟩
 ·show a0.size≤2000000
  omega
theorem q14 {R:S44→Prop}:∀ {l:List S44} {ds:List (DataW H)},All2 (fun a _=>R a) l ds→∀ x∈l,R x
 |[],[],_=>by simp
 |a::l,d::ds,h=>by
  have h1:=q14 h.2
  exact fun x hx=>by
   rcases List.mem_cons.1 hx with rfl|hx
   ·exact h.1
   ·exact h1 x hx
 |[],_::_,h=>h.elim
 |_::_,[],h=>h.elim
set_option maxRecDepth 100000 in
theorem qnf {d:DataW H} {p:List MemPlace} {v:Value} (hv:∃ a n c,v=.slice a n c) (hb:Rows.uptoBulk d≤1048576) (h:DataW.Trod enc Tryz.prog w 0 (fun _=>true) true 22 v d p) :
  ∃ l:List S44,Rep (Zw w) (fun _ _=>none) noM v (.c (.sl (q9h.encL l)))∧szR l:=by
 obtain ⟨a,n,c,rfl⟩:=hv
 obtain ⟨fuel,hf⟩:=h
 obtain ⟨l,ds,rc,hsum,h2'⟩:=qoy (k:=2) q9h (fun a _=>a.Sender.size≤2000000) Tryz.underlying22 (by kernel_rfl) (by decide) hf (fun fuel cs y hlt hy=>qng (by simp only at hlt;omega) hy)
 exact ⟨l,.c rc,q14 h2'⟩
theorem qnh {d:DataW H} {p:List MemPlace} {v:Value} (hv:∃ s,v=.string s) (hb:Rows.uptoBulk d≤1048576) (h:DataW.Trod enc Tryz.prog w 0 (fun _=>true) true 9 v d p) :
  ∃ x:ByteArray,Rep (Zw w) (fun _ _=>none) noM v (.c (.str x))∧x.size≤1048576:=by
 obtain ⟨s,rfl⟩:=hv
 obtain ⟨fuel,h⟩:=h
 obtain ⟨a,e,z,_⟩:=DataW.trod_string Tryz.underlying9 h
 injection e with e
 injection e with e
 subst e
 have:=qq5 z
 simp only at this
 exact ⟨s,.c (.str _),by omega⟩
theorem qnb {v:Value} (hv:∃ n,v=.int .i64 n):∃ n:Int,Rep (Zw w) (fun _ _=>none) noM v (.c (.int .i64 n)):=by
 obtain ⟨n,rfl⟩:=hv
 exact ⟨n,.c (.int _ _)⟩
end
end Go.Proofs.YtepmpilapglklaaGreat
namespace Go.Proofs.YtepmpilapglklaaGreat
open Go.Shelf
set_option maxRecDepth 100000
def qk4:Go.Shelf.Ren:=⟨fun|144=>100|143=>110|219=>107|217=>97|225=>118|224=>119|267=>120|266=>108|314=>128|n=>n,fun|9=>9|4=>4|3=>3|5=>5|46=>105|146=>164|51=>117|n=>n,fun|1=>0|n=>n⟩
theorem lays144:Go.Proofs.Lays.n144 Tryz.prog qk4:={
 mixed:=by kernel_rfl
 f143:=Tryz.func110.trans (congrArg some (by kernel_rfl))
 f144:=Tryz.func100.trans (congrArg some (by kernel_rfl))
 f217:=Tryz.func97.trans (congrArg some (by kernel_rfl))
 f219:=Tryz.func107.trans (congrArg some (by kernel_rfl))
 f224:=Tryz.func119.trans (congrArg some (by kernel_rfl))
 f225:=Tryz.func118.trans (congrArg some (by kernel_rfl))
 f266:=Tryz.func108.trans (congrArg some (by kernel_rfl))
 f267:=Tryz.func120.trans (congrArg some (by kernel_rfl))
 f314:=Tryz.func128.trans (congrArg some (by kernel_rfl))
 t3:=Tryz.underlying3
 a3:=Tryz.isAgg3
 z3:=Tryz.sizeOf3
 v3:=Tryz.zeroValue3
 t4:=Tryz.underlying4
 a4:=Tryz.isAgg4
 z4:=Tryz.sizeOf4
 v4:=Tryz.zeroValue4
 t5:=Tryz.underlying5
 a5:=Tryz.isAgg5
 z5:=Tryz.sizeOf5
 v5:=Tryz.zeroValue5
 t9:=Tryz.underlying9
 a9:=Tryz.isAgg9
 z9:=Tryz.sizeOf9
 v9:=Tryz.zeroValue9
 t46:=Tryz.underlying105
 a46:=Tryz.isAgg105
 z46:=Tryz.sizeOf105
 v46:=Tryz.zeroValue105
 t51:=Tryz.underlying117
 a51:=Tryz.isAgg117
 z51:=Tryz.sizeOf117
 v51:=Tryz.zeroValue117
 t146:=Tryz.underlying164
 a146:=Tryz.isAgg164
 z146:=Tryz.sizeOf164
 v146:=Tryz.zeroValue164
 g1:=by kernel_rfl }
def qk5:Go.Shelf.Ren:=⟨fun|145=>82|220=>96|219=>107|217=>97|225=>118|224=>119|267=>120|266=>108|314=>128|n=>n,fun|9=>9|4=>4|59=>95|3=>3|5=>5|46=>105|146=>164|51=>117|n=>n,fun|1=>0|n=>n⟩
theorem lays145:Go.Proofs.Lays.n145 Tryz.prog qk5:={
 mixed:=by kernel_rfl
 f145:=Tryz.func82.trans (congrArg some (by kernel_rfl))
 f217:=Tryz.func97.trans (congrArg some (by kernel_rfl))
 f219:=Tryz.func107.trans (congrArg some (by kernel_rfl))
 f220:=Tryz.func96.trans (congrArg some (by kernel_rfl))
 f224:=Tryz.func119.trans (congrArg some (by kernel_rfl))
 f225:=Tryz.func118.trans (congrArg some (by kernel_rfl))
 f266:=Tryz.func108.trans (congrArg some (by kernel_rfl))
 f267:=Tryz.func120.trans (congrArg some (by kernel_rfl))
 f314:=Tryz.func128.trans (congrArg some (by kernel_rfl))
 t3:=Tryz.underlying3
 a3:=Tryz.isAgg3
 z3:=Tryz.sizeOf3
 v3:=Tryz.zeroValue3
 t4:=Tryz.underlying4
 a4:=Tryz.isAgg4
 z4:=Tryz.sizeOf4
 v4:=Tryz.zeroValue4
 t5:=Tryz.underlying5
 a5:=Tryz.isAgg5
 z5:=Tryz.sizeOf5
 v5:=Tryz.zeroValue5
 t9:=Tryz.underlying9
 a9:=Tryz.isAgg9
 z9:=Tryz.sizeOf9
 v9:=Tryz.zeroValue9
 t46:=Tryz.underlying105
 a46:=Tryz.isAgg105
 z46:=Tryz.sizeOf105
 v46:=Tryz.zeroValue105
 t51:=Tryz.underlying117
 a51:=Tryz.isAgg117
 z51:=Tryz.sizeOf117
 v51:=Tryz.zeroValue117
 t59:=Tryz.underlying95
 a59:=Tryz.isAgg95
 z59:=Tryz.sizeOf95
 v59:=Tryz.zeroValue95
 t146:=Tryz.underlying164
 a146:=Tryz.isAgg164
 z146:=Tryz.sizeOf164
 v146:=Tryz.zeroValue164
 g1:=by kernel_rfl }
def qk3:Go.Shelf.Ren:=⟨fun|137=>84|217=>97|266=>108|n=>n,fun|9=>9|5=>5|3=>3|n=>n,fun|n=>n⟩
theorem lays137:Go.Proofs.Lays.n137 Tryz.prog qk3:={
 mixed:=by kernel_rfl
 f137:=Tryz.func84.trans (congrArg some (by kernel_rfl))
 f217:=Tryz.func97.trans (congrArg some (by kernel_rfl))
 f266:=Tryz.func108.trans (congrArg some (by kernel_rfl))
 t3:=Tryz.underlying3
 a3:=Tryz.isAgg3
 z3:=Tryz.sizeOf3
 v3:=Tryz.zeroValue3
 t5:=Tryz.underlying5
 a5:=Tryz.isAgg5
 z5:=Tryz.sizeOf5
 v5:=Tryz.zeroValue5
 t9:=Tryz.underlying9
 a9:=Tryz.isAgg9
 z9:=Tryz.sizeOf9
 v9:=Tryz.zeroValue9 }
def qk2:Go.Shelf.Ren:=⟨fun|119=>142|n=>n,fun|21=>21|4=>4|n=>n,fun|n=>n⟩
theorem lays119:Go.Proofs.Lays.n119 Tryz.prog qk2:={
 mixed:=by kernel_rfl
 f119:=Tryz.func142.trans (congrArg some (by kernel_rfl))
 t4:=Tryz.underlying4
 a4:=Tryz.isAgg4
 z4:=Tryz.sizeOf4
 v4:=Tryz.zeroValue4
 t21:=Tryz.underlying21
 a21:=Tryz.isAgg21
 z21:=Tryz.sizeOf21
 v21:=Tryz.zeroValue21 }
def qk6:Go.Shelf.Ren:=⟨fun|152=>129|137=>84|119=>142|224=>119|225=>118|217=>97|266=>108|n=>n,fun|9=>9|21=>21|3=>3|4=>4|5=>5|0=>0|46=>105|n=>n,fun|n=>n⟩
theorem lays152:Go.Proofs.Lays.n152 Tryz.prog qk6:={
 mixed:=by kernel_rfl
 f119:=Tryz.func142.trans (congrArg some (by kernel_rfl))
 f137:=Tryz.func84.trans (congrArg some (by kernel_rfl))
 f152:=Tryz.func129.trans (congrArg some (by kernel_rfl))
 f217:=Tryz.func97.trans (congrArg some (by kernel_rfl))
 f224:=Tryz.func119.trans (congrArg some (by kernel_rfl))
 f225:=Tryz.func118.trans (congrArg some (by kernel_rfl))
 f266:=Tryz.func108.trans (congrArg some (by kernel_rfl))
 t0:=Tryz.underlying0
 a0:=Tryz.isAgg0
 z0:=Tryz.sizeOf0
 v0:=Tryz.zeroValue0
 t3:=Tryz.underlying3
 a3:=Tryz.isAgg3
 z3:=Tryz.sizeOf3
 v3:=Tryz.zeroValue3
 t4:=Tryz.underlying4
 a4:=Tryz.isAgg4
 z4:=Tryz.sizeOf4
 v4:=Tryz.zeroValue4
 t5:=Tryz.underlying5
 a5:=Tryz.isAgg5
 z5:=Tryz.sizeOf5
 v5:=Tryz.zeroValue5
 t9:=Tryz.underlying9
 a9:=Tryz.isAgg9
 z9:=Tryz.sizeOf9
 v9:=Tryz.zeroValue9
 t21:=Tryz.underlying21
 a21:=Tryz.isAgg21
 z21:=Tryz.sizeOf21
 v21:=Tryz.zeroValue21
 t46:=Tryz.underlying105
 a46:=Tryz.isAgg105
 z46:=Tryz.sizeOf105
 v46:=Tryz.zeroValue105 }
def qk7:Go.Shelf.Ren:=⟨fun|153=>121|152=>129|226=>130|227=>131|228=>132|137=>84|119=>142|224=>119|225=>118|217=>97|266=>108|n=>n,fun|9=>9|3=>3|4=>4|5=>5|21=>21|117=>169|116=>168|0=>0|46=>105|124=>183|n=>n,fun|n=>n⟩
theorem lays153:Go.Proofs.Lays.n153 Tryz.prog qk7:={
 mixed:=by kernel_rfl
 f119:=Tryz.func142.trans (congrArg some (by kernel_rfl))
 f137:=Tryz.func84.trans (congrArg some (by kernel_rfl))
 f152:=Tryz.func129.trans (congrArg some (by kernel_rfl))
 f153:=Tryz.func121.trans (congrArg some (by kernel_rfl))
 f217:=Tryz.func97.trans (congrArg some (by kernel_rfl))
 f224:=Tryz.func119.trans (congrArg some (by kernel_rfl))
 f225:=Tryz.func118.trans (congrArg some (by kernel_rfl))
 f226:=Tryz.func130.trans (congrArg some (by kernel_rfl))
 f227:=Tryz.func131.trans (congrArg some (by kernel_rfl))
 f228:=Tryz.func132.trans (congrArg some (by kernel_rfl))
 f266:=Tryz.func108.trans (congrArg some (by kernel_rfl))
 t0:=Tryz.underlying0
 a0:=Tryz.isAgg0
 z0:=Tryz.sizeOf0
 v0:=Tryz.zeroValue0
 t3:=Tryz.underlying3
 a3:=Tryz.isAgg3
 z3:=Tryz.sizeOf3
 v3:=Tryz.zeroValue3
 t4:=Tryz.underlying4
 a4:=Tryz.isAgg4
 z4:=Tryz.sizeOf4
 v4:=Tryz.zeroValue4
 t5:=Tryz.underlying5
 a5:=Tryz.isAgg5
 z5:=Tryz.sizeOf5
 v5:=Tryz.zeroValue5
 t9:=Tryz.underlying9
 a9:=Tryz.isAgg9
 z9:=Tryz.sizeOf9
 v9:=Tryz.zeroValue9
 t21:=Tryz.underlying21
 a21:=Tryz.isAgg21
 z21:=Tryz.sizeOf21
 v21:=Tryz.zeroValue21
 t46:=Tryz.underlying105
 a46:=Tryz.isAgg105
 z46:=Tryz.sizeOf105
 v46:=Tryz.zeroValue105
 t116:=Tryz.underlying168
 a116:=Tryz.isAgg168
 z116:=Tryz.sizeOf168
 t117:=Tryz.underlying169
 a117:=Tryz.isAgg169
 z117:=Tryz.sizeOf169
 v117:=Tryz.zeroValue169
 t124:=Tryz.underlying183
 a124:=Tryz.isAgg183
 z124:=Tryz.sizeOf183
 v124:=Tryz.zeroValue183 }
def qk1:Go.Shelf.Ren:=⟨fun|106=>52|213=>74|265=>90|n=>n,fun|9=>9|3=>3|n=>n,fun|n=>n⟩
theorem lays106:Go.Proofs.Lays.n106 Tryz.prog qk1:={
 mixed:=by kernel_rfl
 f106:=Tryz.func52.trans (congrArg some (by kernel_rfl))
 f213:=Tryz.func74.trans (congrArg some (by kernel_rfl))
 f265:=Tryz.func90.trans (congrArg some (by kernel_rfl))
 t3:=Tryz.underlying3
 a3:=Tryz.isAgg3
 z3:=Tryz.sizeOf3
 v3:=Tryz.zeroValue3
 t9:=Tryz.underlying9
 a9:=Tryz.isAgg9
 z9:=Tryz.sizeOf9
 v9:=Tryz.zeroValue9 }
end Go.Proofs.YtepmpilapglklaaGreat
namespace Go.Proofs.YtepmpilapglklaaGreat
open Go.RowKit
theorem q9q (r:Int) (h:128≤r):∃ l:List UInt8,∃ x:UInt8,Utf8.encode r=⟨(l++[x]).toArray⟩∧128≤x.toNat∧1≤l.length∧l.length≤3:=by
 have hc:128≤(if Utf8.valid r then r.toNat else Utf8.runeError)∧(if Utf8.valid r then r.toNat else Utf8.runeError)<2097152:=by
  split
  ·rename_i hv
   unfold Utf8.valid at hv
   simp at hv
   omega
  ·unfold Utf8.runeError;omega
 unfold Utf8.encode
 simp only
 generalize (if Utf8.valid r then r.toNat else Utf8.runeError)=c at hc
 have hb:∀ n,128≤(UInt8.ofNat (128+n % 64)).toNat:=by
  intro n
  rw [UInt8.toNat_ofNat']
  have:n % 64<64:=Nat.mod_lt _ (by decide)
  omega
 rw [if_neg (by omega)]
 split
 ·exact ⟨[_],_,rfl,hb _,by simp,by simp⟩
 ·split
  ·exact ⟨[_,_],_,rfl,hb _,by simp,by simp⟩
  ·exact ⟨[_,_,_],_,rfl,hb _,by simp,by simp⟩
theorem q90 (s:ByteArray) (i:Nat) (hi:i<s.size) (h:128≤(s[i]'hi).toNat):128≤(Utf8.decode s i).1∧(Utf8.decode s i).1<2147483648∧1≤(Utf8.decode s i).2∧i+(Utf8.decode s i).2≤s.size∧∀ j (hj:j<s.size),i≤j→j<i+(Utf8.decode s i).2→128≤(s[j]'hj).toNat:=by
 have g:∀ j (hj:j<s.size),s.get! j=s[j]'hj:=by
  intro j hj
  simp [ByteArray.get!,getElem!_pos,hj]
  rfl
 have hone:∀ j (hj:j<s.size),i≤j→j<i+1→128≤(s[j]'hj).toNat:=by
  intro j hj h1 h2
  have:j=i:=by omega
  subst this
  exact h
 have hcont:∀ k,(decide (i+k<s.size)&&(s.get! (i+k)).toNat / 64==2)=true→∃ hk:i+k<s.size,128≤(s[i+k]'hk).toNat:=by
  intro k hk
  simp at hk
  refine ⟨hk.1,?_⟩
  have:=hk.2
  rw [g _ hk.1] at this
  omega
 have h0:(s.get! (i+0)).toNat=(s[i]'hi).toNat:=by rw [Nat.add_zero,g i hi]
 have herr:128≤Utf8.runeError∧Utf8.runeError<2147483648:=by unfold Utf8.runeError;omega
 unfold Utf8.decode
 simp only [h0]
 rw [if_neg (by omega)]
 split
 ·rename_i hh
  rw [Bool.and_eq_true] at hh
  obtain ⟨k1,c1⟩:=hcont 1 hh.2
  split
  ·rename_i hc
   refine ⟨hc,?_,by simp,by simp;omega,?_⟩
   ·have:(s[i]'hi).toNat<256:=UInt8.toNat_lt _
    simp only
    have h1:=Nat.mod_lt (s[i]'hi).toNat (show 32>0 by decide)
    have h2:=Nat.mod_lt (s.get! (i+1)).toNat (show 64>0 by decide)
    omega
   ·intro j hj h1 h2
    simp only at h2
    rcases (by omega:j=i∨j=i+1) with rfl|rfl
    ·exact h
    ·exact c1
  ·exact ⟨herr.1,herr.2,by simp,by simp;omega,hone⟩
 ·split
  ·rename_i hh
   rw [Bool.and_eq_true,Bool.and_eq_true] at hh
   obtain ⟨k1,c1⟩:=hcont 1 hh.1.2
   obtain ⟨k2,c2⟩:=hcont 2 hh.2
   split
   ·rename_i hc
    rw [Bool.and_eq_true] at hc
    refine ⟨?_,?_,by simp,by simp;omega,?_⟩
    ·have:=of_decide_eq_true hc.1
     simp only
     omega
    ·simp only
     have h1:=Nat.mod_lt (s[i]'hi).toNat (show 16>0 by decide)
     have h2:=Nat.mod_lt (s.get! (i+1)).toNat (show 64>0 by decide)
     have h3:=Nat.mod_lt (s.get! (i+2)).toNat (show 64>0 by decide)
     omega
    ·intro j hj h1 h2
     simp only at h2
     rcases (by omega:j=i∨j=i+1∨j=i+2) with rfl|rfl|rfl
     ·exact h
     ·exact c1
     ·exact c2
   ·exact ⟨herr.1,herr.2,by simp,by simp;omega,hone⟩
  ·split
   ·rename_i hh
    rw [Bool.and_eq_true,Bool.and_eq_true,Bool.and_eq_true] at hh
    obtain ⟨k1,c1⟩:=hcont 1 hh.1.1.2
    obtain ⟨k2,c2⟩:=hcont 2 hh.1.2
    obtain ⟨k3,c3⟩:=hcont 3 hh.2
    split
    ·rename_i hc
     rw [Bool.and_eq_true] at hc
     refine ⟨?_,?_,by simp,by simp;omega,?_⟩
     ·have:=of_decide_eq_true hc.1
      simp only
      omega
     ·simp only
      have h1:=Nat.mod_lt (s[i]'hi).toNat (show 8>0 by decide)
      have h2:=Nat.mod_lt (s.get! (i+1)).toNat (show 64>0 by decide)
      have h3:=Nat.mod_lt (s.get! (i+2)).toNat (show 64>0 by decide)
      have h4:=Nat.mod_lt (s.get! (i+3)).toNat (show 64>0 by decide)
      omega
     ·intro j hj h1 h2
      simp only at h2
      rcases (by omega:j=i∨j=i+1∨j=i+2∨j=i+3) with rfl|rfl|rfl|rfl
      ·exact h
      ·exact c1
      ·exact c2
      ·exact c3
    ·exact ⟨herr.1,herr.2,by simp,by simp;omega,hone⟩
   ·exact ⟨herr.1,herr.2,by simp,by simp;omega,hone⟩
end Go.Proofs.YtepmpilapglklaaGreat
