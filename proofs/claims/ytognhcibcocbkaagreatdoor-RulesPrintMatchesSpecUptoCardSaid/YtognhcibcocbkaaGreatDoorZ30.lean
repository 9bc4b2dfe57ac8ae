/- A script that the caller hands in, opened; what its bulk bounds. -/
import Derived.Test.YtognhcibcocbkaaGreatDoorZ26
import Derived.Test.YtognhcibcocbkaaGreatDoorZ29
import Derived.Test.YtognhcibcocbkaaGreatDoorRows
namespace Go.Proofs.YtognhcibcocbkaaGreatDoor
open Go.ChangeShapes Go.WideShapes Go.ChangeAt Go.RowKit Go.Deep
theorem q3w {H:Type} (d:DataW H):1≤Rows.uptoBulk d:=by
 cases d with
 |lit l=>cases l <;> simp [Rows.uptoBulk]
 |nil=>simp [Rows.uptoBulk]
 |ptr d=>simp [Rows.uptoBulk]
 |slice elems spare=>simp [Rows.uptoBulk]
 |agg parts=>simp [Rows.uptoBulk]
 |iface t d=>simp [Rows.uptoBulk]
 |map entries=>simp [Rows.uptoBulk]
 |held h=>simp [Rows.uptoBulk]
theorem q3u {H:Type}:∀ l:List (DataW H),l.length≤Rows.uptoBulkAll l
 |[]=>by simp
 |x::r=>by have:=q3w x;have:=q3u r;simp only [Rows.uptoBulkAll,List.length_cons];omega
theorem q3v {H:Type} {d:DataW H}:∀ {l:List (DataW H)},d∈l→Rows.uptoBulk d≤Rows.uptoBulkAll l
 |x::r,h=>by
  simp only [Rows.uptoBulkAll]
  rcases List.mem_cons.1 h with rfl|h
  ·omega
  ·have:=q3v h;omega
theorem q3x {H:Type} {l:List (DataW H)} (hk:Rows.uptoSmall H l=true):Rows.uptoBulkAll l≤1048576:=of_decide_eq_true hk
def Zw (w:World):ZMap:=fun b o=>w.cell? ⟨b,o,none⟩
def RepL (Z:ZMap):List Value→List C→Prop
 |[],[]=>True
 |u::us,x::xs=>RepC Z u x∧RepL Z us xs
 |_,_=>False
theorem RepL.len {Z:ZMap}:∀ {us:List Value} {xs:List C},RepL Z us xs→us.length=xs.length
 |[],[],_=>rfl
 |u::us,x::xs,h=>by simp [RepL.len h.2]
 |[],_::_,h=>h.elim
 |_::_,[],h=>h.elim
theorem RepL.get {Z:ZMap}:∀ {us:List Value} {xs:List C},RepL Z us xs→∀ (i:Nat) u x,us[i]?=some u→xs[i]?=some x→RepC Z u x
 |[],[],_,i,u,x,h,_=>by simp at h
 |u::us,x::xs,h,i,u',x',h1,h2=>by
  cases i with
  |zero=>simp at h1 h2;subst h1 h2;exact h.1
  |succ i=>simp at h1 h2;exact RepL.get h.2 i u' x' h1 h2
 |[],_::_,h,_,_,_,_,_=>h.elim
 |_::_,[],h,_,_,_,_,_=>h.elim
theorem q7i {α:Type} {k:Nat}:∀ {css:List (List α)},(∀ cs∈css,cs.length=k)→∀ (i j:Nat) cs,css[i]?=some cs→j<k→css.flatten[i*k+j]?=cs[j]?
 |[],_,i,j,cs,h,_=>by simp at h
 |c::css,hk,i,j,cs,h,hj=>by
  have hc:c.length=k:=hk c (by simp)
  cases i with
  |zero =>
   simp at h;subst h
   rw [List.flatten_cons,List.getElem?_append_left (by omega)]
   simp
  |succ i =>
   simp at h
   rw [List.flatten_cons,List.getElem?_append_right (by rw [hc,Nat.add_mul];omega),←q7i (fun d hd=>hk d (by simp [hd])) i j cs h hj]
   congr 1
   rw [hc,Nat.add_mul];omega
theorem rd_rep {w:World} {k n c:Nat} {A:Option Addr} {css:List (List Value)} {es:List (List C)} (hr:Rd w k A n c css.flatten) (hn:css.length=n) (hN:A=none→c=0) (hk:0<k) (hcs:∀ cs∈css,cs.length=k) (hl:es.length=css.length)
  (he:∀ (i:Nat) cs e,css[i]?=some cs→es[i]?=some e→RepL (Zw w) cs e):RepC (Zw w) (.slice A n c) (.sl es):=by
 have helen:∀ e∈es,e.length=k:=fun e hm=>by
  obtain ⟨i,hi,rfl⟩:=List.getElem_of_mem hm
  have hx:i<css.length:=by omega
  rw [←(he i _ _ (List.getElem?_eq_getElem hx) (List.getElem?_eq_getElem hi)).len]
  exact hcs _ (List.getElem_mem hx)
 by_cases h0:es=[]
 ·subst h0
  have:n=0:=by rw [←hn,←hl];rfl
  exact .sl A n c k 0 0 (fun _=>.nilFunc) [] (by simp [this]) hr.le hr.2.2.1 (by simp) (by simp) (by simp) (by simp) hN
 ·have hn0:0<n*k:=by
   have:0<es.length:=List.length_pos_iff.2 h0
   exact Nat.mul_pos (by omega) hk
  obtain ⟨b,off,hA,_,hcell⟩:=hr.place hn0
  have hget:∀ (i:Nat) (e:List C) (j:Nat) (x:C),es[i]?=some e→e[j]?=some x→∃ u,css.flatten[i*k+j]?=some u∧RepC (Zw w) u x:=by
   intro i e j x h1 h2
   have hi:i<css.length:=by
    have:=(List.getElem?_eq_some_iff.1 h1).1
    omega
   have hj:j<k:=by
    rw [←helen e (List.mem_of_getElem? h1)]
    exact (List.getElem?_eq_some_iff.1 h2).1
   have hcl:=hcs _ (List.getElem_mem hi)
   have hu:css[i][j]?=some (css[i][j]'(by omega)):=List.getElem?_eq_getElem _
   exact ⟨_,by rw [q7i hcs i j css[i] (List.getElem?_eq_getElem hi) hj,hu],(he i _ e (List.getElem?_eq_getElem hi) h1).get j _ x hu h2⟩
  refine .sl A n c k b off (fun j=>(css.flatten[j]?).getD .nilFunc) es (by omega) hr.le hr.2.2.1 helen (fun _=>hA) ?_ ?_ hN
  ·intro i e j x h1 h2
   obtain ⟨u,hu,_⟩:=hget i e j x h1 h2
   simp only [hu,Option.getD_some]
   exact hcell _ _ hu
  ·intro i e j x h1 h2
   obtain ⟨u,hu,hr'⟩:=hget i e j x h1 h2
   simp only [hu,Option.getD_some]
   exact hr'
theorem qcl {H:Type} {enc:TypeId×Value→H} {P:Program} {w:World} {base:Nat} {spare:Nat→Bool} {held:Bool} {t e:TypeId} {fuel n c:Nat} {A:Option Addr} {x:DataW H×List MemPlace} (ht:P.underlying t=some (.slice e))
  (h:DataW.trod enc P w base spare held fuel t [.slice A n c]=some x):A=none→c=0:=by
 intro hA
 subst hA
 rcases open_slice ht h with ⟨hcs,_⟩|⟨a,len,cap,m,n',D,Pl,hcs,_⟩
 ·injection hcs with hcs
  injection hcs
 ·injection hcs with hcs
  injection hcs with h1
  cases h1
section
variable {H:Type} {enc:TypeId×Value→H} {P:Program}
theorem qdu {w:World} {base:Nat} {spare:Nat→Bool} {held:Bool} {t e:TypeId} {k fuel:Nat} {v:Value} {x:DataW H×List MemPlace} (ht:P.underlying t=some (.slice e)) (hC:P.cellsOf e=k) (hk:0<k)
  (h:DataW.trod enc P w base spare held fuel t [v]=some x) (hone:∀ fuel cs y,Rows.uptoBulk y.1<Rows.uptoBulk x.1→DataW.trod enc P w base spare held fuel e cs=some y→∀ u∈cs,u.oneCell'=true) :
  ∃ A n c css ds,v=.slice A n c∧Rd w k A n c (List.flatten css)∧css.length=n∧ds.length=n∧Rows.uptoBulkAll ds+1≤Rows.uptoBulk x.1∧∀ (i:Nat) cs d,css[i]?=some cs→ds[i]?=some d→cs.length=k∧∃ fuel pl,DataW.trod enc P w base spare held fuel e cs=some (d,pl):=by
 rcases open_slice ht h with ⟨hcs,_⟩|⟨a,len,cap,m,n,D,Pl,hcs,_,hl,hm,hmm,hxx,hi⟩
 ·injection hcs with hcs
  exact ⟨none,0,0,[],[],hcs,Rd.nil,rfl,rfl,by have:=q3w x.1;simp only [Rows.uptoBulkAll];omega,by simp⟩
 ·injection hcs with hcs
  have hlm:len≤m:=by rw [hmm];split <;> omega
  have hsum:Rows.uptoBulkAll ((List.range len).map D)+1≤Rows.uptoBulk x.1:=by rw [hxx];simp only [Rows.uptoBulk];omega
  have hDb:∀ i,i<len→Rows.uptoBulk (D i)<Rows.uptoBulk x.1:=fun i hi'=>by
   have:=q3v (List.mem_map.2 ⟨i,List.mem_range.2 hi',rfl⟩:D i∈(List.range len).map D)
   omega
  have hex:∀ i,i<len→∃ cs',w.cells? base (a.add (i*k)) k=some cs'∧DataW.trod enc P w base spare held n e cs'=some (D i,Pl i):=fun i hi'=>by
   have:=hi i (by omega)
   rwa [hC] at this
  obtain ⟨C,hCC⟩:=choose_lt (α:=List Value) (p:=fun i cs'=>w.cells? base (a.add (i*k)) k=some cs'∧DataW.trod enc P w base spare held n e cs'=some (D i,Pl i)) hex
  have hlen:∀ i,i<len→(C i).length=k:=fun i hi'=>(World.cells?_some (hCC i hi').1).2.1
  have hcell:∀ i,i<len→∀ j,j<k→w.cell? (a.add (i*k+j))=(C i)[j]?:=fun i hi' j hj=>by
   have:=(World.cells?_some (hCC i hi').1).2.2 j hj
   rwa [Go.Deep.add_add] at this
  have hfl:∀ m',m'≤len→(((List.range m').map C).flatten).length=m'*k:=by
   intro m' hm'
   induction m' with
   |zero=>simp
   |succ m' ih =>
    rw [List.range_succ,List.map_append,List.flatten_append,List.length_append,ih (by omega)]
    simp [hlen m' (by omega),Nat.add_mul]
  have hget:∀ m',m'≤len→∀ i j,i<m'→j<k→(((List.range m').map C).flatten)[i*k+j]?=(C i)[j]?:=by
   intro m' hm'
   induction m' with
   |zero=>intro i j hi';omega
   |succ m' ih =>
    intro i j hi' hj
    rw [List.range_succ,List.map_append,List.flatten_append]
    rcases Nat.lt_or_ge i m' with h'|h'
    ·rw [List.getElem?_append_left (by
      rw [hfl m' (by omega)]
      have:(i+1)*k≤m'*k:=Nat.mul_le_mul_right k h'
      rw [Nat.add_mul] at this
      omega)]
     exact ih (by omega) i j h' hj
    ·have:i=m':=by omega
     subst this
     rw [List.getElem?_append_right (by rw [hfl i (by omega)];omega),hfl i (by omega)]
     simp
  refine ⟨some a,len,cap,(List.range len).map C,(List.range len).map D,hcs,⟨by rw [hfl len (Nat.le_refl _)],hl,hm,?_,?_⟩,by simp,by simp,hsum,?_⟩
  ·intro u hu
   obtain ⟨cs,hcs',hu'⟩:=List.mem_flatten.1 hu
   obtain ⟨i,hi',rfl⟩:=List.mem_map.1 hcs'
   exact hone n _ _ (hDb i (by simpa using hi')) (hCC i (by simpa using hi')).2 u hu'
  ·intro hpos
   have hl0:0<len:=Nat.pos_of_mul_pos_right hpos
   have h00:=hcell 0 hl0 0 hk
   have hc0:(C 0)[0]?=some ((C 0)[0]'(by rw [hlen 0 hl0];exact hk)):=List.getElem?_eq_getElem _
   rw [hc0] at h00
   have hadd:(a.add (0*k+0))=a:=by simp [Addr.add]
   rw [hadd] at h00
   obtain ⟨b,off,spot⟩:=a
   have hsp:spot=none:=by
    cases spot with
    |none=>rfl
    |some s =>
     unfold World.cell? at h00
     split at h00 <;> simp at h00
   subst hsp
   refine ⟨b,off,rfl,?_,?_⟩
   ·rcases Nat.lt_or_ge b w.heap.size with hlt|hge
    ·exact hlt
    ·unfold World.cell? at h00
     rw [Array.getElem?_eq_none hge] at h00
     cases h00
   ·intro j u hu
    have hjl:j<len*k:=by
     rw [←hfl len (Nat.le_refl _)]
     rcases Nat.lt_or_ge j ((List.range len).map C).flatten.length with h'|h'
     ·exact h'
     ·rw [List.getElem?_eq_none h'] at hu;cases hu
    have hdm:j / k*k+j % k=j:=by rw [Nat.mul_comm];exact Nat.div_add_mod j k
    have hdl:j / k<len:=(Nat.div_lt_iff_lt_mul hk).2 hjl
    have h1:=hcell (j / k) hdl (j % k) (Nat.mod_lt _ hk)
    have h2:=hget len (Nat.le_refl _) (j / k) (j % k) hdl (Nat.mod_lt _ hk)
    rw [hdm] at h1 h2
    rw [h2] at hu
    rw [hu] at h1
    rw [←h1]
    unfold Addr.add
    split
    ·rename_i h0;subst h0;rfl
    ·rfl
  ·intro i cs d h1 h2
   have hi':i<len:=by
    have:=(List.getElem?_eq_some_iff.1 h1).1
    simpa using this
   rw [List.getElem?_map,List.getElem?_range hi'] at h1 h2
   simp only [Option.map_some,Option.some.injEq] at h1 h2
   subst h1 h2
   exact ⟨hlen i hi',n,_,(hCC i hi').2⟩
end
def All2 {α β:Type} (R:α→β→Prop):List α→List β→Prop
 |[],[]=>True
 |a::l,b::m=>R a b∧All2 R l m
 |_,_=>False
theorem q17 {α β:Type} {R:α→β→Prop}:∀ {l:List α} {m:List β},l.length=m.length→(∀ (i:Nat) a b,l[i]?=some a→m[i]?=some b→R a b)→All2 R l m
 |[],[],_,_=>trivial
 |a::l,b::m,h,hR=>⟨hR 0 a b rfl rfl,q17 (by simpa using h) fun i x y hx hy=>hR (i+1) x y hx hy⟩
 |[],_::_,h,_=>by cases h
 |_::_,[],h,_=>by cases h
theorem qgr {H:Type} {enc:TypeId×Value→H} {w:World} {t e:TypeId} {k fuel:Nat} {v:Value} {x:DataW H×List MemPlace} {τ:Type} (E:EC τ) (R:τ→DataW H→Prop) (ht:Tryz.prog.underlying t=some (.slice e)) (hC:Tryz.prog.cellsOf e=k) (hk:0<k)
  (h:DataW.trod enc Tryz.prog w 0 (fun _=>true) true fuel t [v]=some x)
  (hE:∀ fuel cs y,Rows.uptoBulk y.1<Rows.uptoBulk x.1→DataW.trod enc Tryz.prog w 0 (fun _=>true) true fuel e cs=some y→∃ a:τ,RepL (Zw w) cs (E.enc a)∧R a y.1) :
  ∃ (l:List τ) (ds:List (DataW H)),RepC (Zw w) v (.sl (E.encL l))∧Rows.uptoBulkAll ds+1≤Rows.uptoBulk x.1∧All2 R l ds:=by
 obtain ⟨A,n,c,css,ds,hv,hr,hn,hn',hsum,hcs⟩:=qdu ht hC hk h (fun fuel cs y hb hy u hu=>by
  obtain ⟨a,ha,_⟩:=hE fuel cs y hb hy
  obtain ⟨i,hi,rfl⟩:=List.getElem_of_mem hu
  have hx:i<(E.enc a).length:=by rw [←ha.len];exact hi
  exact (ha.get i _ _ (List.getElem?_eq_getElem hi) (List.getElem?_eq_getElem hx)).one)
 subst hv
 haveI:Inhabited τ:=⟨E.dec []⟩
 have hall:∀ i,i<css.length→∃ a:τ,(∀ cs,css[i]?=some cs→RepL (Zw w) cs (E.enc a))∧(∀ d,ds[i]?=some d→R a d):=fun i hi=>by
  have hi':i<ds.length:=by omega
  obtain ⟨_,fuel,pl,hy⟩:=hcs i _ _ (List.getElem?_eq_getElem hi) (List.getElem?_eq_getElem hi')
  have hb:=q3v (List.getElem_mem hi')
  obtain ⟨a,ha,hra⟩:=hE fuel _ _ (by show Rows.uptoBulk ds[i]<_;omega) hy
  exact ⟨a,fun cs h=>by rw [List.getElem?_eq_getElem hi] at h;injection h with h;subst h;exact ha,fun d h=>by rw [List.getElem?_eq_getElem hi'] at h;injection h with h;subst h;exact hra⟩
 obtain ⟨F,hF⟩:=choose_lt (α:=τ) (n:=css.length) hall
 refine ⟨(List.range css.length).map F,ds,rd_rep hr hn (qcl ht h) hk (fun cs hc=>by
  obtain ⟨i,hi,rfl⟩:=List.getElem_of_mem hc
  exact (hcs i _ _ (List.getElem?_eq_getElem hi) (List.getElem?_eq_getElem (show i<ds.length by omega))).1) (by simp [EC.encL]) ?_,hsum,q17 (by simp;omega) ?_⟩
 ·intro i cs e h1 h2
  have hi:i<css.length:=(List.getElem?_eq_some_iff.1 h1).1
  rw [EC.encL,List.getElem?_map,List.getElem?_map,List.getElem?_range hi] at h2
  simp only [Option.map_some,Option.some.injEq] at h2
  subst h2
  exact (hF i hi).1 cs h1
 ·intro i a d h1 h2
  have hi:i<css.length:=by have:=(List.getElem?_eq_some_iff.1 h1).1;simpa using this
  rw [List.getElem?_map,List.getElem?_range hi] at h1
  simp only [Option.map_some,Option.some.injEq] at h1
  subst h1
  exact (hF i hi).2 d h2
end Go.Proofs.YtognhcibcocbkaaGreatDoor
namespace Go.Proofs.YtognhcibcocbkaaGreatDoor
open Go.ChangeShapes Go.WideShapes Go.ChangeAt Go.RowKit Go.Deep
theorem six {α:Type} {l:List α} (h:l.length=6):∃ a b c d e f,l=[a,b,c,d,e,f]:=by
 match l,h with
 |[a,b,c,d,e,f],_=>exact ⟨a,b,c,d,e,f,rfl⟩
theorem eight {α:Type} {l:List α} (h:l.length=8):∃ a b c d e f g i,l=[a,b,c,d,e,f,g,i]:=by
 match l,h with
 |[a,b,c,d,e,f,g,i],_=>exact ⟨a,b,c,d,e,f,g,i,rfl⟩
theorem thirteen {α:Type} {l:List α} (h:l.length=13):∃ a b c d e f g i j k m n o,l=[a,b,c,d,e,f,g,i,j,k,m,n,o]:=by
 match l,h with
 |[a,b,c,d,e,f,g,i,j,k,m,n,o],_=>exact ⟨a,b,c,d,e,f,g,i,j,k,m,n,o,rfl⟩
section
variable {H:Type} {enc:TypeId×Value→H} {w:World}
def RT (a:S57) (d:DataW H):Prop:=tzT a≤Rows.uptoBulk d∧okT a
theorem all2_T:∀ {l:List S57} {ds:List (DataW H)},All2 RT l ds→tzL l≤Rows.uptoBulkAll ds∧okTL l∧l.length=ds.length
 |[],[],_=>⟨Nat.zero_le _,trivial,rfl⟩
 |a::l,d::ds,h=>by
  obtain ⟨h1,h2,h3⟩:=all2_T h.2
  refine ⟨?_,⟨h.1.2,h2⟩,by simp [h3]⟩
  have:=h.1.1
  simp only [tzL,Rows.uptoBulkAll]
  omega
 |[],_::_,h=>h.elim
 |_::_,[],h=>h.elim
set_option maxRecDepth 100000 in
theorem open_T:∀ (B fuel:Nat) (cs:List Value) (y:DataW H×List MemPlace),Rows.uptoBulk y.1=B→B≤2000000→DataW.trod enc Tryz.prog w 0 (fun _=>true) true fuel 57 cs=some y→∃ a:S57,RepL (Zw w) cs (q5k.enc a)∧RT a y.1:=by
 intro B
 induction B using Nat.strongRecOn with
 |_ B ih =>
  intro fuel cs y hB hb hy
  obtain ⟨xs,n,_,hx,hl,hxl,hf⟩:=DataW.trod_struct Tryz.underlying57 hy
  have hc:Tryz.prog.cellsOf 57=6:=by kernel_rfl
  have c1:Tryz.prog.cellsOf 3=1:=by kernel_rfl
  have c2:Tryz.prog.cellsOf 9=1:=by kernel_rfl
  have c3:Tryz.prog.cellsOf 55=1:=by kernel_rfl
  rw [hc] at hl
  obtain ⟨u0,u1,u2,u3,u4,u5,rfl⟩:=six hl
  obtain ⟨x0,x1,x2,x3,x4,x5,rfl⟩:=six hxl
  have h0:DataW.trod enc Tryz.prog w 0 (fun _=>true) true n 3 [u0]=some x0:=by have:=hf 0 _ rfl;simpa [c1] using this
  have h1:DataW.trod enc Tryz.prog w 0 (fun _=>true) true n 55 [u1]=some x1:=by have:=hf 1 _ rfl;simpa [c3] using this
  have h2:DataW.trod enc Tryz.prog w 0 (fun _=>true) true n 9 [u2]=some x2:=by have:=hf 2 _ rfl;simpa [c2] using this
  have h3:DataW.trod enc Tryz.prog w 0 (fun _=>true) true n 3 [u3]=some x3:=by have:=hf 3 _ rfl;simpa [c1] using this
  have h4:DataW.trod enc Tryz.prog w 0 (fun _=>true) true n 9 [u4]=some x4:=by have:=hf 4 _ rfl;simpa [c2] using this
  have h5:DataW.trod enc Tryz.prog w 0 (fun _=>true) true n 3 [u5]=some x5:=by have:=hf 5 _ rfl;simpa [c1] using this
  obtain ⟨a0,e0,_,_⟩:=DataW.trod_int Tryz.underlying3 h0
  obtain ⟨a2,e2,_,_⟩:=DataW.trod_string Tryz.underlying9 h2
  obtain ⟨a3,e3,_,_⟩:=DataW.trod_int Tryz.underlying3 h3
  obtain ⟨a4,e4,_,_⟩:=DataW.trod_string Tryz.underlying9 h4
  obtain ⟨a5,e5,_,_⟩:=DataW.trod_int Tryz.underlying3 h5
  injection e0 with e0;injection e2 with e2;injection e3 with e3;injection e4 with e4;injection e5 with e5
  subst e0 e2 e3 e4 e5
  have hbulk:Rows.uptoBulk x1.1<B:=by
   rw [←hB,hx]
   simp only [Rows.uptoBulk,List.map_cons,Rows.uptoBulkAll]
   omega
  obtain ⟨l,ds,rc,hsum,h2'⟩:=qgr (k:=6) q5k RT Tryz.underlying55 (by kernel_rfl) (by decide) h1 (fun fuel cs y hlt hy=>ih _ (by omega) fuel cs y rfl (by omega) hy)
  obtain ⟨g1,g2,g3⟩:=all2_T h2'
  refine ⟨⟨a0,l,a2,a3,a4,a5⟩,?_,?_,?_⟩
  ·rw [q5z]
   exact ⟨.int _ _,rc,.str _,.int _ _,.str _,.int _ _,trivial⟩
  ·rw [tzT_eq,hB]
   show 1+tzL l≤B
   omega
  ·have:=q3u ds
   exact (qdl _).2 ⟨by show l.length≤big;unfold big;omega,g2⟩
def RR (a:S59) (d:DataW H):Prop:=tsz a≤Rows.uptoBulk d∧okR a
theorem all2_R:∀ {l:List S59} {ds:List (DataW H)},All2 RR l ds→tszL l≤Rows.uptoBulkAll ds∧okL l∧l.length=ds.length
 |[],[],_=>⟨Nat.zero_le _,trivial,rfl⟩
 |a::l,d::ds,h=>by
  obtain ⟨h1,h2,h3⟩:=all2_R h.2
  refine ⟨?_,⟨h.1.2,h2⟩,by simp [h3]⟩
  have:=h.1.1
  simp only [tszL,Rows.uptoBulkAll]
  omega
 |[],_::_,h=>h.elim
 |_::_,[],h=>h.elim
set_option maxRecDepth 100000 in
theorem open_R:∀ (B fuel:Nat) (cs:List Value) (y:DataW H×List MemPlace),Rows.uptoBulk y.1=B→B≤2000000→DataW.trod enc Tryz.prog w 0 (fun _=>true) true fuel 59 cs=some y→∃ a:S59,RepL (Zw w) cs (q5l.enc a)∧RR a y.1:=by
 intro B
 induction B using Nat.strongRecOn with
 |_ B ih =>
  intro fuel cs y hB hb hy
  obtain ⟨xs,n,_,hx,hl,hxl,hf⟩:=DataW.trod_struct Tryz.underlying59 hy
  have hc:Tryz.prog.cellsOf 59=13:=by kernel_rfl
  have c1:Tryz.prog.cellsOf 3=1:=by kernel_rfl
  have c2:Tryz.prog.cellsOf 9=1:=by kernel_rfl
  have c3:Tryz.prog.cellsOf 22=1:=by kernel_rfl
  have c4:Tryz.prog.cellsOf 57=6:=by kernel_rfl
  rw [hc] at hl
  obtain ⟨u0,u1,u2,u3,u4,u5,u6,u7,u8,u9,u10,u11,u12,rfl⟩:=thirteen hl
  obtain ⟨x0,x1,x2,x3,x4,x5,x6,x7,rfl⟩:=eight hxl
  have h0:DataW.trod enc Tryz.prog w 0 (fun _=>true) true n 3 [u0]=some x0:=by have:=hf 0 _ rfl;simpa [c1] using this
  have h1:DataW.trod enc Tryz.prog w 0 (fun _=>true) true n 57 [u1,u2,u3,u4,u5,u6]=some x1:=by have:=hf 1 _ rfl;simpa [c4] using this
  have h2:DataW.trod enc Tryz.prog w 0 (fun _=>true) true n 22 [u7]=some x2:=by have:=hf 2 _ rfl;simpa [c3] using this
  have h3:DataW.trod enc Tryz.prog w 0 (fun _=>true) true n 22 [u8]=some x3:=by have:=hf 3 _ rfl;simpa [c3] using this
  have h4:DataW.trod enc Tryz.prog w 0 (fun _=>true) true n 3 [u9]=some x4:=by have:=hf 4 _ rfl;simpa [c1] using this
  have h5:DataW.trod enc Tryz.prog w 0 (fun _=>true) true n 9 [u10]=some x5:=by have:=hf 5 _ rfl;simpa [c2] using this
  have h6:DataW.trod enc Tryz.prog w 0 (fun _=>true) true n 9 [u11]=some x6:=by have:=hf 6 _ rfl;simpa [c2] using this
  have h7:DataW.trod enc Tryz.prog w 0 (fun _=>true) true n 3 [u12]=some x7:=by have:=hf 7 _ rfl;simpa [c1] using this
  obtain ⟨a0,e0,_,_⟩:=DataW.trod_int Tryz.underlying3 h0
  obtain ⟨a4,e4,_,_⟩:=DataW.trod_int Tryz.underlying3 h4
  obtain ⟨a5,e5,z5,_⟩:=DataW.trod_string Tryz.underlying9 h5
  obtain ⟨a6,e6,_,_⟩:=DataW.trod_string Tryz.underlying9 h6
  obtain ⟨a7,e7,_,_⟩:=DataW.trod_int Tryz.underlying3 h7
  injection e0 with e0;injection e4 with e4;injection e5 with e5;injection e6 with e6;injection e7 with e7
  subst e0 e4 e5 e6 e7
  have hall:Rows.uptoBulk x1.1+Rows.uptoBulk x2.1+Rows.uptoBulk x3.1+Rows.uptoBulk x5.1<B:=by
   rw [←hB,hx]
   simp only [Rows.uptoBulk,List.map_cons,Rows.uptoBulkAll]
   omega
  have h5b:a5.size<B:=by
   have:Rows.uptoBulk x5.1=a5.data.toList.length+1:=by rw [z5];simp only [Rows.uptoBulk]
   rw [Array.length_toList] at this
   have e:a5.data.size=a5.size:=rfl
   omega
  obtain ⟨t,rt,ht1,ht2⟩:=open_T _ n _ x1 rfl (by omega) h1
  obtain ⟨l,ds,rc,hsum,h2'⟩:=qgr (k:=13) q5l RR Tryz.underlying22 (by kernel_rfl) (by decide) h2 (fun fuel cs y hlt hy=>ih _ (by omega) fuel cs y rfl (by omega) hy)
  obtain ⟨g1,g2,g3⟩:=all2_R h2'
  obtain ⟨l',ds',rc',hsum',h3'⟩:=qgr (k:=13) q5l RR Tryz.underlying22 (by kernel_rfl) (by decide) h3 (fun fuel cs y hlt hy=>ih _ (by omega) fuel cs y rfl (by omega) hy)
  obtain ⟨g1',g2',g3'⟩:=all2_R h3'
  have hlen:=q3u ds
  have hlen':=q3u ds'
  rw [q5z] at rt
  obtain ⟨r1,r2,r3,r4,r5,r6,_⟩:=rt
  obtain ⟨o1,o2⟩:=(qdl t).1 ht2
  refine ⟨⟨a0,t.Kind,t.Tests,t.Name,t.Pattern,t.Text,t.N,l,l',a4,a5,a6,a7⟩,?_,?_,?_⟩
  ·rw [q60]
   exact ⟨.int _ _,r1,r2,r3,r4,r5,r6,rc,rc',.int _ _,.str _,.str _,.int _ _,trivial⟩
  ·rw [tsz_eq,hB]
   show tzT ⟨t.Kind,t.Tests,t.Name,t.Pattern,t.Text,t.N⟩+tszL l+tszL l'≤B
   rw [eta_T]
   omega
  ·refine (okR_eq _).2 ⟨⟨o1,o2⟩,⟨?_,g2⟩,⟨?_,g2'⟩,?_⟩
   ·show l.length≤big;unfold big;omega
   ·show l'.length≤big;unfold big;omega
   ·show a5.size≤big;unfold big;omega
set_option maxRecDepth 100000 in
theorem qdv {d:DataW H} {p:List MemPlace} {v:Value} (hv:∃ a n c,v=.slice a n c) (hb:Rows.uptoBulk d≤1048576) (h:DataW.Trod enc Tryz.prog w 0 (fun _=>true) true 22 v d p) :
  ∃ l:List S59,RepC (Zw w) v (.sl (q5l.encL l))∧okL l∧l.length≤1048576∧tszL l≤1048576:=by
 obtain ⟨a,n,c,rfl⟩:=hv
 obtain ⟨fuel,hf⟩:=h
 obtain ⟨l,ds,rc,hsum,h2'⟩:=qgr (k:=13) q5l RR Tryz.underlying22 (by kernel_rfl) (by decide) hf (fun fuel cs y hlt hy=>open_R _ fuel cs y rfl (by simp only at hlt;omega) hy)
 obtain ⟨g1,g2,g3⟩:=all2_R h2'
 have hlen:=q3u ds
 simp only at hsum
 exact ⟨l,rc,g2,by omega,by omega⟩
end
end Go.Proofs.YtognhcibcocbkaaGreatDoor
