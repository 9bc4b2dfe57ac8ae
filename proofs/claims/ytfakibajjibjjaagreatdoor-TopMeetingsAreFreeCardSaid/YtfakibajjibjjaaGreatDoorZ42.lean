/- A script that the caller hands in, opened; what its bulk bounds. -/
import Derived.Test.YtfakibajjibjjaaGreatDoorZ41
import Derived.Test.YtfakibajjibjjaaGreatDoorRows
import Derived.ChangeArms
namespace Go.Proofs.YtfakibajjibjjaaGreatDoor
open Go.ChangeShapes Go.WideShapes Go.ChangeAt Go.RowKit Go.Deep
theorem q7k {H:Type} (d:DataW H):1≤Rows.uptoBulk d:=by
 cases d with
 |lit l=>cases l <;> simp [Rows.uptoBulk]
 |nil=>simp [Rows.uptoBulk]
 |ptr d=>simp [Rows.uptoBulk]
 |slice elems spare=>simp [Rows.uptoBulk]
 |agg parts=>simp [Rows.uptoBulk]
 |iface t d=>simp [Rows.uptoBulk]
 |map entries=>simp [Rows.uptoBulk]
 |held h=>simp [Rows.uptoBulk]
theorem q7j {H:Type} {d:DataW H}:∀ {l:List (DataW H)},d∈l→Rows.uptoBulk d≤Rows.uptoBulkAll l
 |x::r,h=>by
  simp only [Rows.uptoBulkAll]
  rcases List.mem_cons.1 h with rfl|h
  ·omega
  ·have:=q7j h;omega
def RepL (Z:ZMap):List Value→List C→Prop
 |[],[]=>True
 |u::us,x::xs=>RepC Z u x∧RepL Z us xs
 |_,_=>False
theorem RepL.len {Z:ZMap}:∀ {us:List Value} {xs:List C},RepL Z us xs→us.length=xs.length
 |[],[],_=>rfl
 |u::us,x::xs,h=>by simp [RepL.len h.2]
 |[],_::_,h=>h.elim
 |_::_,[],h=>h.elim
theorem RepL.get {Z:ZMap}:∀ {us:List Value} {xs:List C},RepL Z us xs→∀ (i:Nat) u x,us[i]?=some u→xs[i]?=some x→RepC Z u x
 |[],[],_,i,u,x,h,_=>by simp at h
 |u::us,x::xs,h,i,u',x',h1,h2=>by
  cases i with
  |zero=>simp at h1 h2;subst h1 h2;exact h.1
  |succ i=>simp at h1 h2;exact RepL.get h.2 i u' x' h1 h2
 |[],_::_,h,_,_,_,_,_=>h.elim
 |_::_,[],h,_,_,_,_,_=>h.elim
theorem RepL.agg {Z Y:ZMap} {m:Nat→Option Value} {us:List Value} {xs:List C} (h:RepL Z us xs):Rep Z Y m (.agg us.toArray) (.agg (xs.map .c)):=by
 refine .agg _ _ (by simp [h.len]) ?_ ?_
 ·intro u hu
  obtain ⟨i,hi,rfl⟩:=List.getElem_of_mem (by simpa using hu)
  have hx:i<xs.length:=by rw [←h.len];exact hi
  exact (h.get i _ _ (List.getElem?_eq_getElem hi) (List.getElem?_eq_getElem hx)).one
 ·intro i u x hu hx
  rw [List.getElem?_map] at hx
  cases hy:xs[i]? with
  |none=>rw [hy] at hx;cases hx
  |some y =>
   rw [hy] at hx
   injection hx with hx;subst hx
   exact .c (h.get i u y (by simpa using hu) hy)
theorem qgr {α:Type} {k:Nat}:∀ {css:List (List α)},(∀ cs∈css,cs.length=k)→∀ (i j:Nat) cs,css[i]?=some cs→j<k→css.flatten[i*k+j]?=cs[j]?
 |[],_,i,j,cs,h,_=>by simp at h
 |c::css,hk,i,j,cs,h,hj=>by
  have hc:c.length=k:=hk c (by simp)
  cases i with
  |zero =>
   simp at h;subst h
   rw [List.flatten_cons,List.getElem?_append_left (by omega)]
   simp
  |succ i =>
   simp at h
   rw [List.flatten_cons,List.getElem?_append_right (by rw [hc,Nat.add_mul];omega),←qgr (fun d hd=>hk d (by simp [hd])) i j cs h hj]
   congr 1
   rw [hc,Nat.add_mul];omega
theorem rd_rep {w:World} {k n c:Nat} {A:Option Addr} {css:List (List Value)} {es:List (List C)} (hr:Rd w k A n c css.flatten) (hn:css.length=n) (hN:A=none→c=0) (hk:0<k) (hcs:∀ cs∈css,cs.length=k) (hl:es.length=css.length)
  (he:∀ (i:Nat) cs e,css[i]?=some cs→es[i]?=some e→RepL (Zw w) cs e):RepC (Zw w) (.slice A n c) (.sl es):=by
 have helen:∀ e∈es,e.length=k:=fun e hm=>by
  obtain ⟨i,hi,rfl⟩:=List.getElem_of_mem hm
  have hx:i<css.length:=by omega
  rw [←(he i _ _ (List.getElem?_eq_getElem hx) (List.getElem?_eq_getElem hi)).len]
  exact hcs _ (List.getElem_mem hx)
 by_cases h0:es=[]
 ·subst h0
  have:n=0:=by rw [←hn,←hl];rfl
  exact .sl A n c k 0 0 (fun _=>.nilFunc) [] (by simp [this]) hr.le hr.2.2.1 (by simp) (by simp) (by simp) (by simp) hN
 ·have hn0:0<n*k:=by
   have:0<es.length:=List.length_pos_iff.2 h0
   exact Nat.mul_pos (by omega) hk
  obtain ⟨b,off,hA,_,hcell⟩:=hr.place hn0
  have hget:∀ (i:Nat) (e:List C) (j:Nat) (x:C),es[i]?=some e→e[j]?=some x→∃ u,css.flatten[i*k+j]?=some u∧RepC (Zw w) u x:=by
   intro i e j x h1 h2
   have hi:i<css.length:=by
    have:=(List.getElem?_eq_some_iff.1 h1).1
    omega
   have hj:j<k:=by
    rw [←helen e (List.mem_of_getElem? h1)]
    exact (List.getElem?_eq_some_iff.1 h2).1
   have hcl:=hcs _ (List.getElem_mem hi)
   have hu:css[i][j]?=some (css[i][j]'(by omega)):=List.getElem?_eq_getElem _
   exact ⟨_,by rw [qgr hcs i j css[i] (List.getElem?_eq_getElem hi) hj,hu],(he i _ e (List.getElem?_eq_getElem hi) h1).get j _ x hu h2⟩
  refine .sl A n c k b off (fun j=>(css.flatten[j]?).getD .nilFunc) es (by omega) hr.le hr.2.2.1 helen (fun _=>hA) ?_ ?_ hN
  ·intro i e j x h1 h2
   obtain ⟨u,hu,_⟩:=hget i e j x h1 h2
   simp only [hu,Option.getD_some]
   exact hcell _ _ hu
  ·intro i e j x h1 h2
   obtain ⟨u,hu,hr'⟩:=hget i e j x h1 h2
   simp only [hu,Option.getD_some]
   exact hr'
theorem qsv {H:Type} {enc:TypeId×Value→H} {P:Program} {w:World} {base:Nat} {spare:Nat→Bool} {held:Bool} {t e:TypeId} {fuel n c:Nat} {A:Option Addr} {x:DataW H×List MemPlace} (ht:P.underlying t=some (.slice e))
  (h:DataW.trod enc P w base spare held fuel t [.slice A n c]=some x):A=none→c=0:=by
 intro hA
 subst hA
 rcases open_slice ht h with ⟨hcs,_⟩|⟨a,len,cap,m,n',D,Pl,hcs,_⟩
 ·injection hcs with hcs
  injection hcs
 ·injection hcs with hcs
  injection hcs with h1
  cases h1
section
variable {H:Type} {enc:TypeId×Value→H} {P:Program}
theorem qtv {w:World} {base:Nat} {spare:Nat→Bool} {held:Bool} {t e:TypeId} {k fuel:Nat} {v:Value} {x:DataW H×List MemPlace} (ht:P.underlying t=some (.slice e)) (hC:P.cellsOf e=k) (hk:0<k)
  (h:DataW.trod enc P w base spare held fuel t [v]=some x) (hone:∀ fuel cs y,Rows.uptoBulk y.1<Rows.uptoBulk x.1→DataW.trod enc P w base spare held fuel e cs=some y→∀ u∈cs,u.oneCell'=true) :
  ∃ A n c css ds,v=.slice A n c∧Rd w k A n c (List.flatten css)∧css.length=n∧ds.length=n∧Rows.uptoBulkAll ds+1≤Rows.uptoBulk x.1∧∀ (i:Nat) cs d,css[i]?=some cs→ds[i]?=some d→cs.length=k∧∃ fuel pl,DataW.trod enc P w base spare held fuel e cs=some (d,pl):=by
 rcases open_slice ht h with ⟨hcs,_⟩|⟨a,len,cap,m,n,D,Pl,hcs,_,hl,hm,hmm,hxx,hi⟩
 ·injection hcs with hcs
  exact ⟨none,0,0,[],[],hcs,Rd.nil,rfl,rfl,by have:=q7k x.1;simp only [Rows.uptoBulkAll];omega,by simp⟩
 ·injection hcs with hcs
  have hlm:len≤m:=by rw [hmm];split <;> omega
  have hsum:Rows.uptoBulkAll ((List.range len).map D)+1≤Rows.uptoBulk x.1:=by rw [hxx];simp only [Rows.uptoBulk];omega
  have hDb:∀ i,i<len→Rows.uptoBulk (D i)<Rows.uptoBulk x.1:=fun i hi'=>by
   have:=q7j (List.mem_map.2 ⟨i,List.mem_range.2 hi',rfl⟩:D i∈(List.range len).map D)
   omega
  have hex:∀ i,i<len→∃ cs',w.cells? base (a.add (i*k)) k=some cs'∧DataW.trod enc P w base spare held n e cs'=some (D i,Pl i):=fun i hi'=>by
   have:=hi i (by omega)
   rwa [hC] at this
  obtain ⟨C,hCC⟩:=choose_lt (α:=List Value) (p:=fun i cs'=>w.cells? base (a.add (i*k)) k=some cs'∧DataW.trod enc P w base spare held n e cs'=some (D i,Pl i)) hex
  have hlen:∀ i,i<len→(C i).length=k:=fun i hi'=>(World.cells?_some (hCC i hi').1).2.1
  have hcell:∀ i,i<len→∀ j,j<k→w.cell? (a.add (i*k+j))=(C i)[j]?:=fun i hi' j hj=>by
   have:=(World.cells?_some (hCC i hi').1).2.2 j hj
   rwa [Go.Deep.add_add] at this
  have hfl:∀ m',m'≤len→(((List.range m').map C).flatten).length=m'*k:=by
   intro m' hm'
   induction m' with
   |zero=>simp
   |succ m' ih =>
    rw [List.range_succ,List.map_append,List.flatten_append,List.length_append,ih (by omega)]
    simp [hlen m' (by omega),Nat.add_mul]
  have hget:∀ m',m'≤len→∀ i j,i<m'→j<k→(((List.range m').map C).flatten)[i*k+j]?=(C i)[j]?:=by
   intro m' hm'
   induction m' with
   |zero=>intro i j hi';omega
   |succ m' ih =>
    intro i j hi' hj
    rw [List.range_succ,List.map_append,List.flatten_append]
    rcases Nat.lt_or_ge i m' with h'|h'
    ·rw [List.getElem?_append_left (by
      rw [hfl m' (by omega)]
      have:(i+1)*k≤m'*k:=Nat.mul_le_mul_right k h'
      rw [Nat.add_mul] at this
      omega)]
     exact ih (by omega) i j h' hj
    ·have:i=m':=by omega
     subst this
     rw [List.getElem?_append_right (by rw [hfl i (by omega)];omega),hfl i (by omega)]
     simp
  refine ⟨some a,len,cap,(List.range len).map C,(List.range len).map D,hcs,⟨by rw [hfl len (Nat.le_refl _)],hl,hm,?_,?_⟩,by simp,by simp,hsum,?_⟩
  ·intro u hu
   obtain ⟨cs,hcs',hu'⟩:=List.mem_flatten.1 hu
   obtain ⟨i,hi',rfl⟩:=List.mem_map.1 hcs'
   exact hone n _ _ (hDb i (by simpa using hi')) (hCC i (by simpa using hi')).2 u hu'
  ·intro hpos
   have hl0:0<len:=Nat.pos_of_mul_pos_right hpos
   have h00:=hcell 0 hl0 0 hk
   have hc0:(C 0)[0]?=some ((C 0)[0]'(by rw [hlen 0 hl0];exact hk)):=List.getElem?_eq_getElem _
   rw [hc0] at h00
   have hadd:(a.add (0*k+0))=a:=by simp [Addr.add]
   rw [hadd] at h00
   obtain ⟨b,off,spot⟩:=a
   have hsp:spot=none:=by
    cases spot with
    |none=>rfl
    |some s =>
     unfold World.cell? at h00
     split at h00 <;> simp at h00
   subst hsp
   refine ⟨b,off,rfl,?_,?_⟩
   ·rcases Nat.lt_or_ge b w.heap.size with hlt|hge
    ·exact hlt
    ·unfold World.cell? at h00
     rw [Array.getElem?_eq_none hge] at h00
     cases h00
   ·intro j u hu
    have hjl:j<len*k:=by
     rw [←hfl len (Nat.le_refl _)]
     rcases Nat.lt_or_ge j ((List.range len).map C).flatten.length with h'|h'
     ·exact h'
     ·rw [List.getElem?_eq_none h'] at hu;cases hu
    have hdm:j / k*k+j % k=j:=by rw [Nat.mul_comm];exact Nat.div_add_mod j k
    have hdl:j / k<len:=(Nat.div_lt_iff_lt_mul hk).2 hjl
    have h1:=hcell (j / k) hdl (j % k) (Nat.mod_lt _ hk)
    have h2:=hget len (Nat.le_refl _) (j / k) (j % k) hdl (Nat.mod_lt _ hk)
    rw [hdm] at h1 h2
    rw [h2] at hu
    rw [hu] at h1
    rw [←h1]
    unfold Addr.add
    split
    ·rename_i h0;subst h0;rfl
    ·rfl
  ·intro i cs d h1 h2
   have hi':i<len:=by
    have:=(List.getElem?_eq_some_iff.1 h1).1
    simpa using this
   rw [List.getElem?_map,List.getElem?_range hi'] at h1 h2
   simp only [Option.map_some,Option.some.injEq] at h1 h2
   subst h1 h2
   exact ⟨hlen i hi',n,_,(hCC i hi').2⟩
end
def All2 {α β:Type} (R:α→β→Prop):List α→List β→Prop
 |[],[]=>True
 |a::l,b::m=>R a b∧All2 R l m
 |_,_=>False
theorem q1r {α β:Type} {R:α→β→Prop}:∀ {l:List α} {m:List β},l.length=m.length→(∀ (i:Nat) a b,l[i]?=some a→m[i]?=some b→R a b)→All2 R l m
 |[],[],_,_=>trivial
 |a::l,b::m,h,hR=>⟨hR 0 a b rfl rfl,q1r (by simpa using h) fun i x y hx hy=>hR (i+1) x y hx hy⟩
 |[],_::_,h,_=>by cases h
 |_::_,[],h,_=>by cases h
theorem qvr {H:Type} {enc:TypeId×Value→H} {w:World} {t e:TypeId} {k fuel:Nat} {v:Value} {x:DataW H×List MemPlace} {τ:Type} (E:EC τ) (R:τ→DataW H→Prop) (ht:Tryz.prog.underlying t=some (.slice e)) (hC:Tryz.prog.cellsOf e=k) (hk:0<k)
  (h:DataW.trod enc Tryz.prog w 0 (fun _=>true) true fuel t [v]=some x)
  (hE:∀ fuel cs y,Rows.uptoBulk y.1<Rows.uptoBulk x.1→DataW.trod enc Tryz.prog w 0 (fun _=>true) true fuel e cs=some y→∃ a:τ,RepL (Zw w) cs (E.enc a)∧R a y.1) :
  ∃ (l:List τ) (ds:List (DataW H)),RepC (Zw w) v (.sl (E.encL l))∧Rows.uptoBulkAll ds+1≤Rows.uptoBulk x.1∧All2 R l ds:=by
 obtain ⟨A,n,c,css,ds,hv,hr,hn,hn',hsum,hcs⟩:=qtv ht hC hk h (fun fuel cs y hb hy u hu=>by
  obtain ⟨a,ha,_⟩:=hE fuel cs y hb hy
  obtain ⟨i,hi,rfl⟩:=List.getElem_of_mem hu
  have hx:i<(E.enc a).length:=by rw [←ha.len];exact hi
  exact (ha.get i _ _ (List.getElem?_eq_getElem hi) (List.getElem?_eq_getElem hx)).one)
 subst hv
 haveI:Inhabited τ:=⟨E.dec []⟩
 have hall:∀ i,i<css.length→∃ a:τ,(∀ cs,css[i]?=some cs→RepL (Zw w) cs (E.enc a))∧(∀ d,ds[i]?=some d→R a d):=fun i hi=>by
  have hi':i<ds.length:=by omega
  obtain ⟨_,fuel,pl,hy⟩:=hcs i _ _ (List.getElem?_eq_getElem hi) (List.getElem?_eq_getElem hi')
  have hb:=q7j (List.getElem_mem hi')
  obtain ⟨a,ha,hra⟩:=hE fuel _ _ (by show Rows.uptoBulk ds[i]<_;omega) hy
  exact ⟨a,fun cs h=>by rw [List.getElem?_eq_getElem hi] at h;injection h with h;subst h;exact ha,fun d h=>by rw [List.getElem?_eq_getElem hi'] at h;injection h with h;subst h;exact hra⟩
 obtain ⟨F,hF⟩:=choose_lt (α:=τ) (n:=css.length) hall
 refine ⟨(List.range css.length).map F,ds,rd_rep hr hn (qsv ht h) hk (fun cs hc=>by
  obtain ⟨i,hi,rfl⟩:=List.getElem_of_mem hc
  exact (hcs i _ _ (List.getElem?_eq_getElem hi) (List.getElem?_eq_getElem (show i<ds.length by omega))).1) (by simp [EC.encL]) ?_,hsum,q1r (by simp;omega) ?_⟩
 ·intro i cs e h1 h2
  have hi:i<css.length:=(List.getElem?_eq_some_iff.1 h1).1
  rw [EC.encL,List.getElem?_map,List.getElem?_map,List.getElem?_range hi] at h2
  simp only [Option.map_some,Option.some.injEq] at h2
  subst h2
  exact (hF i hi).1 cs h1
 ·intro i a d h1 h2
  have hi:i<css.length:=by have:=(List.getElem?_eq_some_iff.1 h1).1;simpa using this
  rw [List.getElem?_map,List.getElem?_range hi] at h1
  simp only [Option.map_some,Option.some.injEq] at h1
  subst h1
  exact (hF i hi).2 d h2
end Go.Proofs.YtfakibajjibjjaaGreatDoor
namespace Go.Proofs.YtfakibajjibjjaaGreatDoor
open Go.ChangeShapes Go.WideShapes Go.ChangeAt Go.RowKit Go.Deep
set_option maxRecDepth 100000
theorem L2 {α:Type} {l:List α} (h:l.length=2):∃ a0 a1,l=[a0,a1]:=by
 match l,h with
 |[a0,a1],_=>exact ⟨a0,a1,rfl⟩
theorem L3 {α:Type} {l:List α} (h:l.length=3):∃ a0 a1 a2,l=[a0,a1,a2]:=by
 match l,h with
 |[a0,a1,a2],_=>exact ⟨a0,a1,a2,rfl⟩
theorem L4 {α:Type} {l:List α} (h:l.length=4):∃ a0 a1 a2 a3,l=[a0,a1,a2,a3]:=by
 match l,h with
 |[a0,a1,a2,a3],_=>exact ⟨a0,a1,a2,a3,rfl⟩
theorem L5 {α:Type} {l:List α} (h:l.length=5):∃ a0 a1 a2 a3 a4,l=[a0,a1,a2,a3,a4]:=by
 match l,h with
 |[a0,a1,a2,a3,a4],_=>exact ⟨a0,a1,a2,a3,a4,rfl⟩
theorem L6 {α:Type} {l:List α} (h:l.length=6):∃ a0 a1 a2 a3 a4 a5,l=[a0,a1,a2,a3,a4,a5]:=by
 match l,h with
 |[a0,a1,a2,a3,a4,a5],_=>exact ⟨a0,a1,a2,a3,a4,a5,rfl⟩
theorem L7 {α:Type} {l:List α} (h:l.length=7):∃ a0 a1 a2 a3 a4 a5 a6,l=[a0,a1,a2,a3,a4,a5,a6]:=by
 match l,h with
 |[a0,a1,a2,a3,a4,a5,a6],_=>exact ⟨a0,a1,a2,a3,a4,a5,a6,rfl⟩
theorem L8 {α:Type} {l:List α} (h:l.length=8):∃ a0 a1 a2 a3 a4 a5 a6 a7,l=[a0,a1,a2,a3,a4,a5,a6,a7]:=by
 match l,h with
 |[a0,a1,a2,a3,a4,a5,a6,a7],_=>exact ⟨a0,a1,a2,a3,a4,a5,a6,a7,rfl⟩
theorem L11 {α:Type} {l:List α} (h:l.length=11):∃ a0 a1 a2 a3 a4 a5 a6 a7 a8 a9 a10,l=[a0,a1,a2,a3,a4,a5,a6,a7,a8,a9,a10]:=by
 match l,h with
 |[a0,a1,a2,a3,a4,a5,a6,a7,a8,a9,a10],_=>exact ⟨a0,a1,a2,a3,a4,a5,a6,a7,a8,a9,a10,rfl⟩
theorem L24 {α:Type} {l:List α} (h:l.length=24):∃ a0 a1 a2 a3 a4 a5 a6 a7 a8 a9 a10 a11 a12 a13 a14 a15 a16 a17 a18 a19 a20 a21 a22 a23,l=[a0,a1,a2,a3,a4,a5,a6,a7,a8,a9,a10,a11,a12,a13,a14,a15,a16,a17,a18,a19,a20,a21,a22,a23]:=by
 match l,h with
 |[a0,a1,a2,a3,a4,a5,a6,a7,a8,a9,a10,a11,a12,a13,a14,a15,a16,a17,a18,a19,a20,a21,a22,a23],_=>exact ⟨a0,a1,a2,a3,a4,a5,a6,a7,a8,a9,a10,a11,a12,a13,a14,a15,a16,a17,a18,a19,a20,a21,a22,a23,rfl⟩
theorem sl_len {Z:ZMap} {v:Value} {es:List (List C)} (h:RepC Z v (.sl es)):es.length≤maxLen:=by
 cases h with
 |sl A n c k b off U _ hl hc hm _ _ _ _ _=>omega
section
variable {H:Type} {enc:TypeId×Value→H} {w:World}
theorem qts {fuel:Nat} {cs:List Value} {y:DataW H×List MemPlace} (h:DataW.trod enc Tryz.prog w 0 (fun _=>true) true fuel 3 cs=some y) :
  ∃ a:Int,RepL (Zw w) cs (qdf.enc a)∧True:=by
 obtain ⟨a0,e0,_,_⟩:=DataW.trod_int Tryz.underlying3 h
 subst e0
 exact ⟨a0,⟨.int _ _,trivial⟩,trivial⟩
theorem qto {fuel:Nat} {cs:List Value} {y:DataW H×List MemPlace} (h:DataW.trod enc Tryz.prog w 0 (fun _=>true) true fuel 361 cs=some y) :
  ∃ a:S361,RepL (Zw w) cs (qdi.enc a)∧True:=by
 obtain ⟨xs,n,_,hx,hl,hxl,hf⟩:=DataW.trod_struct Tryz.underlying361 h
 have hc:Tryz.prog.cellsOf 361=2:=by kernel_rfl
 have c_i:Tryz.prog.cellsOf 3=1:=by kernel_rfl
 have c_s:Tryz.prog.cellsOf 9=1:=by kernel_rfl
 rw [hc] at hl
 obtain ⟨u0,u1,rfl⟩:=L2 hl
 obtain ⟨x0,x1,rfl⟩:=L2 hxl
 have h0:DataW.trod enc Tryz.prog w 0 (fun _=>true) true n 9 [u0]=some x0:=by have:=hf 0 _ rfl;simpa [c_i,c_s] using this
 have h1:DataW.trod enc Tryz.prog w 0 (fun _=>true) true n 3 [u1]=some x1:=by have:=hf 1 _ rfl;simpa [c_i,c_s] using this
 obtain ⟨a0,e0,_,_⟩:=DataW.trod_string Tryz.underlying9 h0
 injection e0 with e0
 subst e0
 obtain ⟨a1,e1,_,_⟩:=DataW.trod_int Tryz.underlying3 h1
 injection e1 with e1
 subst e1
 exact ⟨⟨a0,a1⟩,⟨.str _,.int _ _,trivial⟩,trivial⟩
theorem qtw {fuel:Nat} {cs:List Value} {y:DataW H×List MemPlace} (h:DataW.trod enc Tryz.prog w 0 (fun _=>true) true fuel 75 cs=some y) :
  ∃ a0 a1 a2 a3:Int,cs=[.int .i64 a0,.int .i64 a1,.int .i64 a2,.int .i64 a3]:=by
 obtain ⟨xs,n,_,hx,hl,hxl,hf⟩:=DataW.trod_struct Tryz.underlying75 h
 have hc:Tryz.prog.cellsOf 75=4:=by kernel_rfl
 have c_i:Tryz.prog.cellsOf 3=1:=by kernel_rfl
 rw [hc] at hl
 obtain ⟨u0,u1,u2,u3,rfl⟩:=L4 hl
 obtain ⟨x0,x1,x2,x3,rfl⟩:=L4 hxl
 have h0:DataW.trod enc Tryz.prog w 0 (fun _=>true) true n 3 [u0]=some x0:=by have:=hf 0 _ rfl;simpa [c_i] using this
 have h1:DataW.trod enc Tryz.prog w 0 (fun _=>true) true n 3 [u1]=some x1:=by have:=hf 1 _ rfl;simpa [c_i] using this
 have h2:DataW.trod enc Tryz.prog w 0 (fun _=>true) true n 3 [u2]=some x2:=by have:=hf 2 _ rfl;simpa [c_i] using this
 have h3:DataW.trod enc Tryz.prog w 0 (fun _=>true) true n 3 [u3]=some x3:=by have:=hf 3 _ rfl;simpa [c_i] using this
 obtain ⟨a0,e0,_,_⟩:=DataW.trod_int Tryz.underlying3 h0
 injection e0 with e0
 subst e0
 obtain ⟨a1,e1,_,_⟩:=DataW.trod_int Tryz.underlying3 h1
 injection e1 with e1
 subst e1
 obtain ⟨a2,e2,_,_⟩:=DataW.trod_int Tryz.underlying3 h2
 injection e2 with e2
 subst e2
 obtain ⟨a3,e3,_,_⟩:=DataW.trod_int Tryz.underlying3 h3
 injection e3 with e3
 subst e3
 exact ⟨_,_,_,_,rfl⟩
theorem qtk {fuel:Nat} {cs:List Value} {y:DataW H×List MemPlace} (h:DataW.trod enc Tryz.prog w 0 (fun _=>true) true fuel 81 cs=some y) :
  ∃ a0 a1 a2 a3 a4 a5 a6:Int,cs=[.int .i64 a0,.int .i64 a1,.int .i64 a2,.int .i64 a3,.int .i64 a4,.int .i64 a5,.int .i64 a6]:=by
 obtain ⟨xs,n,_,hx,hl,hxl,hf⟩:=DataW.trod_struct Tryz.underlying81 h
 have hc:Tryz.prog.cellsOf 81=7:=by kernel_rfl
 have c_i:Tryz.prog.cellsOf 3=1:=by kernel_rfl
 rw [hc] at hl
 obtain ⟨u0,u1,u2,u3,u4,u5,u6,rfl⟩:=L7 hl
 obtain ⟨x0,x1,x2,x3,x4,x5,x6,rfl⟩:=L7 hxl
 have h0:DataW.trod enc Tryz.prog w 0 (fun _=>true) true n 3 [u0]=some x0:=by have:=hf 0 _ rfl;simpa [c_i] using this
 have h1:DataW.trod enc Tryz.prog w 0 (fun _=>true) true n 3 [u1]=some x1:=by have:=hf 1 _ rfl;simpa [c_i] using this
 have h2:DataW.trod enc Tryz.prog w 0 (fun _=>true) true n 3 [u2]=some x2:=by have:=hf 2 _ rfl;simpa [c_i] using this
 have h3:DataW.trod enc Tryz.prog w 0 (fun _=>true) true n 3 [u3]=some x3:=by have:=hf 3 _ rfl;simpa [c_i] using this
 have h4:DataW.trod enc Tryz.prog w 0 (fun _=>true) true n 3 [u4]=some x4:=by have:=hf 4 _ rfl;simpa [c_i] using this
 have h5:DataW.trod enc Tryz.prog w 0 (fun _=>true) true n 3 [u5]=some x5:=by have:=hf 5 _ rfl;simpa [c_i] using this
 have h6:DataW.trod enc Tryz.prog w 0 (fun _=>true) true n 3 [u6]=some x6:=by have:=hf 6 _ rfl;simpa [c_i] using this
 obtain ⟨a0,e0,_,_⟩:=DataW.trod_int Tryz.underlying3 h0
 injection e0 with e0
 subst e0
 obtain ⟨a1,e1,_,_⟩:=DataW.trod_int Tryz.underlying3 h1
 injection e1 with e1
 subst e1
 obtain ⟨a2,e2,_,_⟩:=DataW.trod_int Tryz.underlying3 h2
 injection e2 with e2
 subst e2
 obtain ⟨a3,e3,_,_⟩:=DataW.trod_int Tryz.underlying3 h3
 injection e3 with e3
 subst e3
 obtain ⟨a4,e4,_,_⟩:=DataW.trod_int Tryz.underlying3 h4
 injection e4 with e4
 subst e4
 obtain ⟨a5,e5,_,_⟩:=DataW.trod_int Tryz.underlying3 h5
 injection e5 with e5
 subst e5
 obtain ⟨a6,e6,_,_⟩:=DataW.trod_int Tryz.underlying3 h6
 injection e6 with e6
 subst e6
 exact ⟨_,_,_,_,_,_,_,rfl⟩
theorem qtt {fuel:Nat} {cs:List Value} {y:DataW H×List MemPlace} (h:DataW.trod enc Tryz.prog w 0 (fun _=>true) true fuel 24 cs=some y) :
  ∃ a0 a1:Int,cs=[.int .i64 a0,.int .i64 a1]:=by
 obtain ⟨xs,n,_,hx,hl,hxl,hf⟩:=DataW.trod_struct Tryz.underlying24 h
 have hc:Tryz.prog.cellsOf 24=2:=by kernel_rfl
 have c_i:Tryz.prog.cellsOf 3=1:=by kernel_rfl
 rw [hc] at hl
 obtain ⟨u0,u1,rfl⟩:=L2 hl
 obtain ⟨x0,x1,rfl⟩:=L2 hxl
 have h0:DataW.trod enc Tryz.prog w 0 (fun _=>true) true n 3 [u0]=some x0:=by have:=hf 0 _ rfl;simpa [c_i] using this
 have h1:DataW.trod enc Tryz.prog w 0 (fun _=>true) true n 3 [u1]=some x1:=by have:=hf 1 _ rfl;simpa [c_i] using this
 obtain ⟨a0,e0,_,_⟩:=DataW.trod_int Tryz.underlying3 h0
 injection e0 with e0
 subst e0
 obtain ⟨a1,e1,_,_⟩:=DataW.trod_int Tryz.underlying3 h1
 injection e1 with e1
 subst e1
 exact ⟨_,_,rfl⟩
theorem qtu {fuel:Nat} {cs:List Value} {y:DataW H×List MemPlace} (h:DataW.trod enc Tryz.prog w 0 (fun _=>true) true fuel 84 cs=some y) :
  ∃ (a0 a1 a2 a3:Int) (a4:Bool) (a5 a6 a7:List Int) (v5 v6 v7:Value),cs=[.int .i64 a0,.int .i64 a1,.int .i64 a2,.int .i64 a3,.bool a4,v5,v6,v7]∧RepC (Zw w) v5 (.sl (qdf.encL a5))∧RepC (Zw w) v6 (.sl (qdf.encL a6))∧RepC (Zw w) v7 (.sl (qdf.encL a7)):=by
 obtain ⟨xs,n,_,hx,hl,hxl,hf⟩:=DataW.trod_struct Tryz.underlying84 h
 have hc:Tryz.prog.cellsOf 84=8:=by kernel_rfl
 have c_b:Tryz.prog.cellsOf 4=1:=by kernel_rfl
 have c_i:Tryz.prog.cellsOf 3=1:=by kernel_rfl
 have c_l:Tryz.prog.cellsOf 82=1:=by kernel_rfl
 rw [hc] at hl
 obtain ⟨u0,u1,u2,u3,u4,u5,u6,u7,rfl⟩:=L8 hl
 obtain ⟨x0,x1,x2,x3,x4,x5,x6,x7,rfl⟩:=L8 hxl
 have h0:DataW.trod enc Tryz.prog w 0 (fun _=>true) true n 3 [u0]=some x0:=by have:=hf 0 _ rfl;simpa [c_b,c_i,c_l] using this
 have h1:DataW.trod enc Tryz.prog w 0 (fun _=>true) true n 3 [u1]=some x1:=by have:=hf 1 _ rfl;simpa [c_b,c_i,c_l] using this
 have h2:DataW.trod enc Tryz.prog w 0 (fun _=>true) true n 3 [u2]=some x2:=by have:=hf 2 _ rfl;simpa [c_b,c_i,c_l] using this
 have h3:DataW.trod enc Tryz.prog w 0 (fun _=>true) true n 3 [u3]=some x3:=by have:=hf 3 _ rfl;simpa [c_b,c_i,c_l] using this
 have h4:DataW.trod enc Tryz.prog w 0 (fun _=>true) true n 4 [u4]=some x4:=by have:=hf 4 _ rfl;simpa [c_b,c_i,c_l] using this
 have h5:DataW.trod enc Tryz.prog w 0 (fun _=>true) true n 82 [u5]=some x5:=by have:=hf 5 _ rfl;simpa [c_b,c_i,c_l] using this
 have h6:DataW.trod enc Tryz.prog w 0 (fun _=>true) true n 82 [u6]=some x6:=by have:=hf 6 _ rfl;simpa [c_b,c_i,c_l] using this
 have h7:DataW.trod enc Tryz.prog w 0 (fun _=>true) true n 82 [u7]=some x7:=by have:=hf 7 _ rfl;simpa [c_b,c_i,c_l] using this
 obtain ⟨a0,e0,_,_⟩:=DataW.trod_int Tryz.underlying3 h0
 injection e0 with e0
 subst e0
 obtain ⟨a1,e1,_,_⟩:=DataW.trod_int Tryz.underlying3 h1
 injection e1 with e1
 subst e1
 obtain ⟨a2,e2,_,_⟩:=DataW.trod_int Tryz.underlying3 h2
 injection e2 with e2
 subst e2
 obtain ⟨a3,e3,_,_⟩:=DataW.trod_int Tryz.underlying3 h3
 injection e3 with e3
 subst e3
 obtain ⟨a4,e4,_⟩:=DataW.trod_bool Tryz.underlying4 h4
 injection e4 with e4
 subst e4
 obtain ⟨a5,_,r5,_,_⟩:=qvr (k:=1) qdf (fun _ _=>True) Tryz.underlying82 (by kernel_rfl) (by decide) h5 (fun fuel cs y _ hy=>qts hy)
 obtain ⟨a6,_,r6,_,_⟩:=qvr (k:=1) qdf (fun _ _=>True) Tryz.underlying82 (by kernel_rfl) (by decide) h6 (fun fuel cs y _ hy=>qts hy)
 obtain ⟨a7,_,r7,_,_⟩:=qvr (k:=1) qdf (fun _ _=>True) Tryz.underlying82 (by kernel_rfl) (by decide) h7 (fun fuel cs y _ hy=>qts hy)
 exact ⟨_,_,_,_,_,_,_,_,_,_,_,rfl,r5,r6,r7⟩
theorem qtx {fuel:Nat} {cs:List Value} {y:DataW H×List MemPlace} (h:DataW.trod enc Tryz.prog w 0 (fun _=>true) true fuel 77 cs=some y) :
  ∃ a:S77,RepL (Zw w) cs (qdk.enc a)∧True:=by
 obtain ⟨xs,n,_,hx,hl,hxl,hf⟩:=DataW.trod_struct Tryz.underlying77 h
 have hc:Tryz.prog.cellsOf 77=11:=by kernel_rfl
 have c_T:Tryz.prog.cellsOf 75=4:=by kernel_rfl
 have c_i:Tryz.prog.cellsOf 3=1:=by kernel_rfl
 have c_s:Tryz.prog.cellsOf 9=1:=by kernel_rfl
 rw [hc] at hl
 obtain ⟨u0,u1,u2,u3,u4,u5,u6,u7,u8,u9,u10,rfl⟩:=L11 hl
 obtain ⟨x0,x1,x2,x3,x4,rfl⟩:=L5 hxl
 have h0:DataW.trod enc Tryz.prog w 0 (fun _=>true) true n 9 [u0]=some x0:=by have:=hf 0 _ rfl;simpa [c_T,c_i,c_s] using this
 have h1:DataW.trod enc Tryz.prog w 0 (fun _=>true) true n 3 [u1]=some x1:=by have:=hf 1 _ rfl;simpa [c_T,c_i,c_s] using this
 have h2:DataW.trod enc Tryz.prog w 0 (fun _=>true) true n 3 [u2]=some x2:=by have:=hf 2 _ rfl;simpa [c_T,c_i,c_s] using this
 have h3:DataW.trod enc Tryz.prog w 0 (fun _=>true) true n 75 [u3,u4,u5,u6]=some x3:=by have:=hf 3 _ rfl;simpa [c_T,c_i,c_s] using this
 have h4:DataW.trod enc Tryz.prog w 0 (fun _=>true) true n 75 [u7,u8,u9,u10]=some x4:=by have:=hf 4 _ rfl;simpa [c_T,c_i,c_s] using this
 obtain ⟨a0,e0,_,_⟩:=DataW.trod_string Tryz.underlying9 h0
 injection e0 with e0
 subst e0
 obtain ⟨a1,e1,_,_⟩:=DataW.trod_int Tryz.underlying3 h1
 injection e1 with e1
 subst e1
 obtain ⟨a2,e2,_,_⟩:=DataW.trod_int Tryz.underlying3 h2
 injection e2 with e2
 subst e2
 obtain ⟨a3,a4,a5,a6,e3⟩:=qtw h3
 simp only [List.cons.injEq,and_true] at e3
 obtain ⟨rfl,rfl,rfl,rfl⟩:=e3
 obtain ⟨a7,a8,a9,a10,e4⟩:=qtw h4
 simp only [List.cons.injEq,and_true] at e4
 obtain ⟨rfl,rfl,rfl,rfl⟩:=e4
 exact ⟨⟨a0,a1,a2,a3,a4,a5,a6,a7,a8,a9,a10⟩,⟨.str _,.int _ _,.int _ _,.int _ _,.int _ _,.int _ _,.int _ _,.int _ _,.int _ _,.int _ _,.int _ _,trivial⟩,trivial⟩
theorem qtl {fuel:Nat} {cs:List Value} {y:DataW H×List MemPlace} (h:DataW.trod enc Tryz.prog w 0 (fun _=>true) true fuel 86 cs=some y) :
  ∃ a:S86,RepL (Zw w) cs (qdl.enc a)∧a.Repeat_Weekdays.length≤9223372036854775807:=by
 obtain ⟨xs,n,_,hx,hl,hxl,hf⟩:=DataW.trod_struct Tryz.underlying86 h
 have hc:Tryz.prog.cellsOf 86=24:=by kernel_rfl
 have c_D:Tryz.prog.cellsOf 81=7:=by kernel_rfl
 have c_R:Tryz.prog.cellsOf 84=8:=by kernel_rfl
 have c_g:Tryz.prog.cellsOf 79=1:=by kernel_rfl
 have c_i:Tryz.prog.cellsOf 3=1:=by kernel_rfl
 have c_s:Tryz.prog.cellsOf 9=1:=by kernel_rfl
 rw [hc] at hl
 obtain ⟨u0,u1,u2,u3,u4,u5,u6,u7,u8,u9,u10,u11,u12,u13,u14,u15,u16,u17,u18,u19,u20,u21,u22,u23,rfl⟩:=L24 hl
 obtain ⟨x0,x1,x2,x3,x4,x5,x6,x7,x8,x9,x10,rfl⟩:=L11 hxl
 have h0:DataW.trod enc Tryz.prog w 0 (fun _=>true) true n 9 [u0]=some x0:=by have:=hf 0 _ rfl;simpa [c_D,c_R,c_g,c_i,c_s] using this
 have h1:DataW.trod enc Tryz.prog w 0 (fun _=>true) true n 3 [u1]=some x1:=by have:=hf 1 _ rfl;simpa [c_D,c_R,c_g,c_i,c_s] using this
 have h2:DataW.trod enc Tryz.prog w 0 (fun _=>true) true n 3 [u2]=some x2:=by have:=hf 2 _ rfl;simpa [c_D,c_R,c_g,c_i,c_s] using this
 have h3:DataW.trod enc Tryz.prog w 0 (fun _=>true) true n 9 [u3]=some x3:=by have:=hf 3 _ rfl;simpa [c_D,c_R,c_g,c_i,c_s] using this
 have h4:DataW.trod enc Tryz.prog w 0 (fun _=>true) true n 9 [u4]=some x4:=by have:=hf 4 _ rfl;simpa [c_D,c_R,c_g,c_i,c_s] using this
 have h5:DataW.trod enc Tryz.prog w 0 (fun _=>true) true n 9 [u5]=some x5:=by have:=hf 5 _ rfl;simpa [c_D,c_R,c_g,c_i,c_s] using this
 have h6:DataW.trod enc Tryz.prog w 0 (fun _=>true) true n 79 [u6]=some x6:=by have:=hf 6 _ rfl;simpa [c_D,c_R,c_g,c_i,c_s] using this
 have h7:DataW.trod enc Tryz.prog w 0 (fun _=>true) true n 9 [u7]=some x7:=by have:=hf 7 _ rfl;simpa [c_D,c_R,c_g,c_i,c_s] using this
 have h8:DataW.trod enc Tryz.prog w 0 (fun _=>true) true n 81 [u8,u9,u10,u11,u12,u13,u14]=some x8:=by have:=hf 8 _ rfl;simpa [c_D,c_R,c_g,c_i,c_s] using this
 have h9:DataW.trod enc Tryz.prog w 0 (fun _=>true) true n 3 [u15]=some x9:=by have:=hf 9 _ rfl;simpa [c_D,c_R,c_g,c_i,c_s] using this
 have h10:DataW.trod enc Tryz.prog w 0 (fun _=>true) true n 84 [u16,u17,u18,u19,u20,u21,u22,u23]=some x10:=by have:=hf 10 _ rfl;simpa [c_D,c_R,c_g,c_i,c_s] using this
 obtain ⟨a0,e0,_,_⟩:=DataW.trod_string Tryz.underlying9 h0
 injection e0 with e0
 subst e0
 obtain ⟨a1,e1,_,_⟩:=DataW.trod_int Tryz.underlying3 h1
 injection e1 with e1
 subst e1
 obtain ⟨a2,e2,_,_⟩:=DataW.trod_int Tryz.underlying3 h2
 injection e2 with e2
 subst e2
 obtain ⟨a3,e3,_,_⟩:=DataW.trod_string Tryz.underlying9 h3
 injection e3 with e3
 subst e3
 obtain ⟨a4,e4,_,_⟩:=DataW.trod_string Tryz.underlying9 h4
 injection e4 with e4
 subst e4
 obtain ⟨a5,e5,_,_⟩:=DataW.trod_string Tryz.underlying9 h5
 injection e5 with e5
 subst e5
 obtain ⟨a6,_,r6,_,_⟩:=qvr (k:=2) qdi (fun _ _=>True) Tryz.underlying79 (by kernel_rfl) (by decide) h6 (fun fuel cs y _ hy=>qto hy)
 obtain ⟨a7,e7,_,_⟩:=DataW.trod_string Tryz.underlying9 h7
 injection e7 with e7
 subst e7
 obtain ⟨a8,a9,a10,a11,a12,a13,a14,e8⟩:=qtk h8
 simp only [List.cons.injEq,and_true] at e8
 obtain ⟨rfl,rfl,rfl,rfl,rfl,rfl,rfl⟩:=e8
 obtain ⟨a15,e9,_,_⟩:=DataW.trod_int Tryz.underlying3 h9
 injection e9 with e9
 subst e9
 obtain ⟨a16,a17,a18,a19,a20,a21,a22,a23,v5,v6,v7,e10,r21,r22,r23⟩:=qtu h10
 simp only [List.cons.injEq,and_true] at e10
 obtain ⟨rfl,rfl,rfl,rfl,rfl,rfl,rfl,rfl⟩:=e10
 have hlen:=sl_len r21
 rw [EC.encL_length] at hlen
 have hm:maxLen≤9223372036854775807:=by decide
 exact ⟨⟨a0,a1,a2,a3,a4,a5,a6,a7,a8,a9,a10,a11,a12,a13,a14,a15,a16,a17,a18,a19,a20,a21,a22,a23⟩,⟨.str _,.int _ _,.int _ _,.str _,.str _,.str _,r6,.str _,.int _ _,.int _ _,.int _ _,.int _ _,.int _ _,.int _ _,.int _ _,.int _ _,.int _ _,.int _ _,.int _ _,.int _ _,.bool _,r21,r22,r23,trivial⟩,Nat.le_trans hlen hm⟩
theorem qtj {fuel:Nat} {cs:List Value} {y:DataW H×List MemPlace} (h:DataW.trod enc Tryz.prog w 0 (fun _=>true) true fuel 43 cs=some y) :
  ∃ a:S43,RepL (Zw w) cs (qdj.enc a)∧True:=by
 obtain ⟨xs,n,_,hx,hl,hxl,hf⟩:=DataW.trod_struct Tryz.underlying43 h
 have hc:Tryz.prog.cellsOf 43=4:=by kernel_rfl
 have c_P:Tryz.prog.cellsOf 24=2:=by kernel_rfl
 have c_i:Tryz.prog.cellsOf 3=1:=by kernel_rfl
 have c_s:Tryz.prog.cellsOf 9=1:=by kernel_rfl
 rw [hc] at hl
 obtain ⟨u0,u1,u2,u3,rfl⟩:=L4 hl
 obtain ⟨x0,x1,x2,rfl⟩:=L3 hxl
 have h0:DataW.trod enc Tryz.prog w 0 (fun _=>true) true n 9 [u0]=some x0:=by have:=hf 0 _ rfl;simpa [c_P,c_i,c_s] using this
 have h1:DataW.trod enc Tryz.prog w 0 (fun _=>true) true n 3 [u1]=some x1:=by have:=hf 1 _ rfl;simpa [c_P,c_i,c_s] using this
 have h2:DataW.trod enc Tryz.prog w 0 (fun _=>true) true n 24 [u2,u3]=some x2:=by have:=hf 2 _ rfl;simpa [c_P,c_i,c_s] using this
 obtain ⟨a0,e0,_,_⟩:=DataW.trod_string Tryz.underlying9 h0
 injection e0 with e0
 subst e0
 obtain ⟨a1,e1,_,_⟩:=DataW.trod_int Tryz.underlying3 h1
 injection e1 with e1
 subst e1
 obtain ⟨a2,a3,e2⟩:=qtt h2
 simp only [List.cons.injEq,and_true] at e2
 obtain ⟨rfl,rfl⟩:=e2
 exact ⟨⟨a0,a1,a2,a3⟩,⟨.str _,.int _ _,.int _ _,.int _ _,trivial⟩,trivial⟩
theorem qtq {fuel:Nat} {cs:List Value} {y:DataW H×List MemPlace} (h:DataW.trod enc Tryz.prog w 0 (fun _=>true) true fuel 26 cs=some y) :
  ∃ (a0:ByteArray) (a1:List S43) (a2 a3 a4:Int) (a5:Bool) (v1:Value),cs=[.string a0,v1,.int .i64 a2,.int .i64 a3,.int .i64 a4,.bool a5]∧RepC (Zw w) v1 (.sl (qdj.encL a1)):=by
 obtain ⟨xs,n,_,hx,hl,hxl,hf⟩:=DataW.trod_struct Tryz.underlying26 h
 have hc:Tryz.prog.cellsOf 26=6:=by kernel_rfl
 have c_P:Tryz.prog.cellsOf 24=2:=by kernel_rfl
 have c_a:Tryz.prog.cellsOf 22=1:=by kernel_rfl
 have c_b:Tryz.prog.cellsOf 4=1:=by kernel_rfl
 have c_i:Tryz.prog.cellsOf 3=1:=by kernel_rfl
 have c_s:Tryz.prog.cellsOf 9=1:=by kernel_rfl
 rw [hc] at hl
 obtain ⟨u0,u1,u2,u3,u4,u5,rfl⟩:=L6 hl
 obtain ⟨x0,x1,x2,x3,x4,rfl⟩:=L5 hxl
 have h0:DataW.trod enc Tryz.prog w 0 (fun _=>true) true n 9 [u0]=some x0:=by have:=hf 0 _ rfl;simpa [c_P,c_a,c_b,c_i,c_s] using this
 have h1:DataW.trod enc Tryz.prog w 0 (fun _=>true) true n 22 [u1]=some x1:=by have:=hf 1 _ rfl;simpa [c_P,c_a,c_b,c_i,c_s] using this
 have h2:DataW.trod enc Tryz.prog w 0 (fun _=>true) true n 3 [u2]=some x2:=by have:=hf 2 _ rfl;simpa [c_P,c_a,c_b,c_i,c_s] using this
 have h3:DataW.trod enc Tryz.prog w 0 (fun _=>true) true n 24 [u3,u4]=some x3:=by have:=hf 3 _ rfl;simpa [c_P,c_a,c_b,c_i,c_s] using this
 have h4:DataW.trod enc Tryz.prog w 0 (fun _=>true) true n 4 [u5]=some x4:=by have:=hf 4 _ rfl;simpa [c_P,c_a,c_b,c_i,c_s] using this
 obtain ⟨a0,e0,_,_⟩:=DataW.trod_string Tryz.underlying9 h0
 injection e0 with e0
 subst e0
 obtain ⟨a1,_,r1,_,_⟩:=qvr (k:=4) qdj (fun _ _=>True) Tryz.underlying22 (by kernel_rfl) (by decide) h1 (fun fuel cs y _ hy=>qtj hy)
 obtain ⟨a2,e2,_,_⟩:=DataW.trod_int Tryz.underlying3 h2
 injection e2 with e2
 subst e2
 obtain ⟨a3,a4,e3⟩:=qtt h3
 simp only [List.cons.injEq,and_true] at e3
 obtain ⟨rfl,rfl⟩:=e3
 obtain ⟨a5,e4,_⟩:=DataW.trod_bool Tryz.underlying4 h4
 injection e4 with e4
 subst e4
 exact ⟨_,_,_,_,_,_,_,rfl,r1⟩
theorem q1q {τ:Type} {R:τ→Prop}:∀ {l:List τ} {ds:List (DataW H)},All2 (fun a _=>R a) l ds→∀ x∈l,R x
 |[],[],_=>by simp
 |a::l,d::ds,h=>by
  have h1:=q1q h.2
  exact fun x hx=>by
   rcases List.mem_cons.1 hx with rfl|hx
   ·exact h.1
   ·exact h1 x hx
 |[],_::_,h=>h.elim
 |_::_,[],h=>h.elim
theorem qty {d:DataW H} {p:List MemPlace} {v:Value} (h:DataW.Trod enc Tryz.prog w 0 (fun _=>true) true 28 v d p) (hv:∃ a n c,v=.slice a n c) :
  ∃ l:List S77,Rep (Zw w) (fun _ _=>none) noM v (.c (.sl (qdk.encL l))):=by
 obtain ⟨a,n,c,rfl⟩:=hv
 obtain ⟨fuel,hf⟩:=h
 obtain ⟨l,ds,rc,_,_⟩:=qvr (k:=11) qdk (fun _ _=>True) Tryz.underlying28 (by kernel_rfl) (by decide) hf (fun fuel cs y _ hy=>qtx hy)
 exact ⟨l,.c rc⟩
theorem qtn {fuel:Nat} {cs:List Value} {y:DataW H×List MemPlace} (h:DataW.trod enc Tryz.prog w 0 (fun _=>true) true fuel 36 cs=some y) :
  ∃ a:List S86,RepL (Zw w) cs (qdh.enc a)∧∀ x∈a,x.Repeat_Weekdays.length≤9223372036854775807:=by
 have hc:∃ v,cs=[v]:=by
  rcases open_slice Tryz.underlying36 h with ⟨hcs,_⟩|⟨a,len,cap,m,n',D,Pl,hcs,_⟩
  ·exact ⟨_,hcs⟩
  ·exact ⟨_,hcs⟩
 obtain ⟨v,rfl⟩:=hc
 obtain ⟨l,ds,rc,_,h2⟩:=qvr (k:=24) qdl (fun a _=>a.Repeat_Weekdays.length≤9223372036854775807) Tryz.underlying36 (by kernel_rfl) (by decide) h (fun fuel cs y _ hy=>qtl hy)
 exact ⟨l,⟨rc,trivial⟩,q1q h2⟩
theorem qtm {d:DataW H} {p:List MemPlace} {v:Value} (h:DataW.Trod enc Tryz.prog w 0 (fun _=>true) true 27 v d p) (hv:∃ a n c,v=.slice a n c) :
  ∃ l:List (List S86),Rep (Zw w) (fun _ _=>none) noM v (.c (.sl (qdh.encL l)))∧l.length≤maxLen∧∀ a∈l,∀ x∈a,x.Repeat_Weekdays.length≤9223372036854775807:=by
 obtain ⟨a,n,c,rfl⟩:=hv
 obtain ⟨fuel,hf⟩:=h
 obtain ⟨l,ds,rc,_,h2⟩:=qvr (k:=1) qdh (fun a _=>∀ x∈a,x.Repeat_Weekdays.length≤9223372036854775807) Tryz.underlying27 (by kernel_rfl) (by decide) hf (fun fuel cs y _ hy=>qtn hy)
 have:=sl_len rc
 rw [EC.encL_length] at this
 exact ⟨l,.c rc,this,q1q h2⟩
theorem qtr {d:DataW H} {p:List MemPlace} {v:Value} (h:DataW.Trod enc Tryz.prog w 0 (fun _=>true) true 26 v d p) (hv:∃ cs,v=.agg cs) :
  ∃ (o:ByteArray) (l:List S43) (r f t:Int) (b:Bool),Rep (Zw w) (fun _ _=>none) noM v (.agg [.c (.str o),.c (.sl (qdj.encL l)),.c (.int .i64 r),.c (.int .i64 f),.c (.int .i64 t),.c (.bool b)])∧l.length≤maxLen:=by
 obtain ⟨cs,rfl⟩:=hv
 obtain ⟨fuel,hf⟩:=h
 obtain ⟨o,l,r,f,t,b,v1,e,rc⟩:=qtq hf
 have hl:=sl_len rc
 rw [EC.encL_length] at hl
 refine ⟨o,l,r,f,t,b,?_,hl⟩
 have hr:RepL (Zw w) cs.toList [.str o,.sl (qdj.encL l),.int .i64 r,.int .i64 f,.int .i64 t,.bool b]:=by
  have e':cs.toList=_:=e
  rw [e']
  exact ⟨.str _,rc,.int _ _,.int _ _,.int _ _,.bool _,trivial⟩
 exact hr.agg
theorem qtp {v:Value} (hv:∃ n,v=.int .i64 n):∃ n:Int,v=.int .i64 n∧Rep (Zw w) (fun _ _=>none) noM v (.c (.int .i64 n)):=by
 obtain ⟨n,rfl⟩:=hv
 exact ⟨n,rfl,.c (.int _ _)⟩
end
end Go.Proofs.YtfakibajjibjjaaGreatDoor
