/- rules.Parse at the text of the script of 12. -/
import Derived.Test.YtmlcmoaonaomfaaGreatDoorA6
import Derived.Test.YtmlcmoaonaomfaaGreatDoorZ39
import Derived.Test.YtmlcmoaonaomfaaGreatDoorZ01
import Derived.Test.YtmlcmoaonaomfaaGreatDoorChecked
import Derived.ProofKit
import Derived.OpenShut
import Derived.JoinedCond
import Derived.Deep.Slices
import Derived.Deep.Fields
import Derived.Lib.SmallJoins
import Derived.Test.YtmlcmoaonaomfaaGreatDoorZ40
import Derived.Test.YtmlcmoaonaomfaaGreatDoorRows
import Derived.Test.YtmlcmoaonaomfaaGreatDoorZ38
import Derived.Shelf.Vars
import Derived.HandedShaped
import Derived.ChangeMaps5
import Derived.Deep.DeepHandedRow
import Derived.Lib.LaidU8
import Derived.Lib.LaidIn
namespace Go.Proofs.YtmlcmoaonaomfaaGreatDoor
open Go.RowKit
set_option maxRecDepth 100000 in
theorem quy (s:BA) {z:Int} (hz:qyw (scr s)=some (0,z)) (hl:(txtL (bl s)).length<=4000):qyn (baL (txtL (bl s)))=some (scr s,(0,0)):=by
 have e1:bl (baL (txtL (bl s)))=txtL (bl s):=by simp [bl,baL]
 have e2:baL (bl s)=s:=by cases s;simp [baL,bl]
 have hr:=q1dr (bl s)
 rw [e2] at hr
 have hv:scriptF (scr s)=(0,z):=by unfold scriptF;rw [hz];rfl
 rw [qux]
 ·rw [e1]
  unfold sParse
  rw [if_neg (by omega),hr]
  simp only
  rw [hv,if_neg (by simp)]
 ·intro _ l h
  rw [e1,hr] at h
  injection h with h
  subst h
  rw [hz,hv]
end Go.Proofs.YtmlcmoaonaomfaaGreatDoor
namespace Go.Proofs.YtmlcmoaonaomfaaGreatDoor
open Go.ChangeShapes Go.WideShapes Go.ChangeAt Go.RowKit Go.Deep
theorem qq:ownKnob Tryz.prog.godebug=none:=by kernel_rfl
theorem qp:laidOutB Tryz.prog=true:=by kernel_rfl
section
variable {H:Type} {enc:TypeId×Value->H} {P:Program}
theorem q1dp (hl:laidOutB P=true) {W W':World} (hb:Bel W W'):∀ {ts:List TypeId} {vs:List Value} {ds:List (DataW H)} {ps:List MemPlace},ts.all (λt=>P.readableRec t&&decide (t<P.types.size))=true ->
  DataW.TrodAll enc P W 0 (λ_=>true) true ts vs ds ps->(∀ x∈ps,x.block<W.heap.size)->DataW.TrodAll enc P W' 0 (λb=>decide (b<W.heap.size)) true ts vs ds ps
 |[],[],[],_,_,h,_=>h
 |[],[],_::_,_,_,h,_=>h.elim
 |[],_::_,_,_,_,h,_=>h.elim
 |_::_,[],_,_,_,h,_=>h.elim
 |_::_,_::_,[],_,_,h,_=>h.elim
 |t::ts,v::vs,d::ds,ps,hr,h,hlt=>by
  obtain ⟨p,q,h1,h2,rfl⟩:=h
  simp only [x17q,x6q,decide_eq_true_eq] at hr
  exact ⟨p,q,Below.trod hl hr.1.1 hr.1.2 h1 hb (λx hx=>hlt x (List.mem_append_left _ hx)),q1dp hl hb hr.2 h2 (λx hx=>hlt x (List.mem_append_right _ hx)),rfl⟩
theorem qpy {fn:Func} {s:ChangeSpec} {W W':World} {args:Array Value} {ds gs:List (DataW H)} {before:List MemPlace} {tb:TypeId} (hl:laidOutB P=true)
  (hr:fn.params.toList.all (λt=>P.readableRec t&&decide (t<P.types.size))=true) (hrt:fn.resultTypes=#[tb]) (htb:P.underlying tb=some .bool) (hvars:s.vars=[])
  (hfn:s.fn H ds={ results:=[.lit (.bool true)],args:=ds })
  (hW:DataW.Whole enc P fn.params.toList s.vars false W args.toList ds gs before) (hb:Bel W W'):s.post enc P fn false true false false W args (.bool true) W':=by
 have hW':=hW
 have hlt:∀ x∈before,x.block<W.heap.size:=λx hx=>hW.lt x hx
 obtain ⟨p,q,hA,hV,rfl,hfz,hnd⟩:=hW
 rw [hvars] at hV
 obtain ⟨rfl,rfl⟩:=trodVars_none hV
 have e:s.fn H (ds++[])={ results:=[.lit (.bool true)],args:=ds }:=by rw [List.append_nil];exact hfn
 refine ⟨ds,[],p++[],[],p,[],hW',?_,?_,?_,hb.frame _,λh=>by cases h⟩
 ·rw [e,hrt]
  exact trodAll_mk1 (shut_bool htb true)
 ·rw [e]
  exact q1dp hl hb hr hA (λx hx=>hlt x (by simpa using hx))
 ·rw [e,hvars]
  rfl
end
theorem q8h {H:Type} (d:DataW H):1<=Rows.uptoBulk d:=by
 cases d with
 |lit l=>cases l <;> simp [Rows.uptoBulk]
 |nil=>simp [Rows.uptoBulk]
 |ptr d=>simp [Rows.uptoBulk]
 |slice elems spare=>simp [Rows.uptoBulk]
 |agg parts=>simp [Rows.uptoBulk]
 |iface t d=>simp [Rows.uptoBulk]
 |map entries=>simp [Rows.uptoBulk]
 |held h=>simp [Rows.uptoBulk]
theorem q8f {H:Type}:∀ l:List (DataW H),l.length<=Rows.uptoBulkAll l
 |[]=>by simp
 |x::r=>by have:=q8h x;have:=q8f r;simp only [Rows.uptoBulkAll,x9q];omega
theorem q8g {H:Type} {d:DataW H}:∀ {l:List (DataW H)},d∈l->Rows.uptoBulk d<=Rows.uptoBulkAll l
 |x::r,h=>by
  simp only [Rows.uptoBulkAll]
  rcases List.mem_cons.1 h with rfl|h
  ·omega
  ·have:=q8g h;omega
theorem q8i {H:Type} {l:List (DataW H)} (hk:Rows.uptoSmall H l=true):Rows.uptoBulkAll l<=1048576:=of_decide_eq_true hk
def Zw (w:World):ZMap:=λb o=>w.cell? ⟨b,o,none⟩
def RepL (Z:ZMap):List Value->List C->Prop
 |[],[]=>True
 |u::us,x::xs=>RepC Z u x/\RepL Z us xs
 |_,_=>False
theorem RepL.len {Z:ZMap}:∀ {us:List Value} {xs:List C},RepL Z us xs->us.length=xs.length
 |[],[],_=>rfl
 |u::us,x::xs,h=>by simp [RepL.len h.2]
 |[],_::_,h=>h.elim
 |_::_,[],h=>h.elim
theorem RepL.get {Z:ZMap}:∀ {us:List Value} {xs:List C},RepL Z us xs->∀ (i:Nat) u x,us[i]?=some u->xs[i]?=some x->RepC Z u x
 |[],[],_,i,u,x,h,_=>by simp at h
 |u::us,x::xs,h,i,u',x',h1,h2=>by
  cases i with
  |zero=>simp at h1 h2;subst h1 h2;exact h.1
  |succ i=>simp at h1 h2;exact RepL.get h.2 i u' x' h1 h2
 |[],_::_,h,_,_,_,_,_=>h.elim
 |_::_,[],h,_,_,_,_,_=>h.elim
theorem RepL.agg {Z Y:ZMap} {m:Nat->Oq Value} {us:List Value} {xs:List C} (h:RepL Z us xs):Rep Z Y m (.agg us.toArray) (.agg (xs.map .c)):=by
 refine .agg _ _ (by simp [h.len]) ?_ ?_
 ·intro u hu
  obtain ⟨i,hi,rfl⟩:=List.getElem_of_mem (by simpa using hu)
  have hx:i<xs.length:=by rw [←h.len];exact hi
  exact (h.get i _ _ (List.getElem?_eq_getElem hi) (List.getElem?_eq_getElem hx)).one
 ·intro i u x hu hx
  rw [x14q] at hx
  cases hy:xs[i]? with
  |none=>rw [hy] at hx;cases hx
  |some y =>
   rw [hy] at hx
   injection hx with hx;subst hx
   exact .c (h.get i u y (by simpa using hu) hy)
theorem qh2 {α:Type} {k:Nat}:∀ {css:List (List α)},(∀ cs∈css,cs.length=k)->∀ (i j:Nat) cs,css[i]?=some cs->j<k->css.flatten[i*k+j]?=cs[j]?
 |[],_,i,j,cs,h,_=>by simp at h
 |c::css,hk,i,j,cs,h,hj=>by
  have hc:c.length=k:=hk c (by simp)
  cases i with
  |zero =>
   simp at h;subst h
   rw [List.flatten_cons,List.getElem?_append_left (by omega)]
   simp
  |succ i =>
   simp at h
   rw [List.flatten_cons,List.getElem?_append_right (by rw [hc,Nat.add_mul];omega),←qh2 (λd hd=>hk d (by simp [hd])) i j cs h hj]
   congr 1
   rw [hc,Nat.add_mul];omega
theorem rd_rep {w:World} {k n c:Nat} {A:Oq Addr} {css:List (List Value)} {es:List (List C)} (hr:Rd w k A n c css.flatten) (hn:css.length=n) (hN:A=none->c=0) (hk:0<k) (hcs:∀ cs∈css,cs.length=k) (hl:es.length=css.length)
  (he:∀ (i:Nat) cs e,css[i]?=some cs->es[i]?=some e->RepL (Zw w) cs e):RepC (Zw w) (.slice A n c) (.sl es):=by
 have helen:∀ e∈es,e.length=k:=λe hm=>by
  obtain ⟨i,hi,rfl⟩:=List.getElem_of_mem hm
  have hx:i<css.length:=by omega
  rw [←(he i _ _ (List.getElem?_eq_getElem hx) (List.getElem?_eq_getElem hi)).len]
  exact hcs _ (List.getElem_mem hx)
 by_cases h0:es=[]
 ·subst h0
  have:n=0:=by rw [←hn,←hl];rfl
  exact .sl A n c k 0 0 (λ_=>.nilFunc) [] (by simp [this]) hr.le hr.2.2.1 (by simp) (by simp) (by simp) (by simp) hN
 ·have hn0:0<n*k:=by
   have:0<es.length:=List.length_pos_iff.2 h0
   exact Nat.mul_pos (by omega) hk
  obtain ⟨b,off,hA,_,hcell⟩:=hr.place hn0
  have hget:∀ (i:Nat) (e:List C) (j:Nat) (x:C),es[i]?=some e->e[j]?=some x->∃ u,css.flatten[i*k+j]?=some u/\RepC (Zw w) u x:=by
   intro i e j x h1 h2
   have hi:i<css.length:=by
    have:=(List.getElem?_eq_some_iff.1 h1).1
    omega
   have hj:j<k:=by
    rw [←helen e (List.mem_of_getElem? h1)]
    exact (List.getElem?_eq_some_iff.1 h2).1
   have hcl:=hcs _ (List.getElem_mem hi)
   have hu:css[i][j]?=some (css[i][j]'(by omega)):=List.getElem?_eq_getElem _
   exact ⟨_,by rw [qh2 hcs i j css[i] (List.getElem?_eq_getElem hi) hj,hu],(he i _ e (List.getElem?_eq_getElem hi) h1).get j _ x hu h2⟩
  refine .sl A n c k b off (λj=>(css.flatten[j]?).getD .nilFunc) es (by omega) hr.le hr.2.2.1 helen (λ_=>hA) ?_ ?_ hN
  ·intro i e j x h1 h2
   obtain ⟨u,hu,_⟩:=hget i e j x h1 h2
   simp only [hu,Option.getD_some]
   exact hcell _ _ hu
  ·intro i e j x h1 h2
   obtain ⟨u,hu,hr'⟩:=hget i e j x h1 h2
   simp only [hu,Option.getD_some]
   exact hr'
theorem qte {H:Type} {enc:TypeId×Value->H} {P:Program} {w:World} {base:Nat} {spare:Nat->Bool} {held:Bool} {t e:TypeId} {fuel n c:Nat} {A:Oq Addr} {x:DataW H×List MemPlace} (ht:P.underlying t=some (.slice e))
  (h:DataW.trod enc P w base spare held fuel t [.slice A n c]=some x):A=none->c=0:=by
 intro hA
 subst hA
 rcases open_slice ht h with ⟨hcs,_⟩|⟨a,len,cap,m,n',D,Pl,hcs,_⟩
 ·injection hcs with hcs
  injection hcs
 ·injection hcs with hcs
  injection hcs with h1
  cases h1
section
variable {H:Type} {enc:TypeId×Value->H} {P:Program}
theorem qum {w:World} {base:Nat} {spare:Nat->Bool} {held:Bool} {t e:TypeId} {k fuel:Nat} {v:Value} {x:DataW H×List MemPlace} (ht:P.underlying t=some (.slice e)) (hC:P.cellsOf e=k) (hk:0<k)
  (h:DataW.trod enc P w base spare held fuel t [v]=some x) (hone:∀ fuel cs y,Rows.uptoBulk y.1<Rows.uptoBulk x.1->DataW.trod enc P w base spare held fuel e cs=some y->∀ u∈cs,u.oneCell'=true) :
  ∃ A n c css ds,v=.slice A n c/\Rd w k A n c (List.flatten css)/\css.length=n/\ds.length=n/\Rows.uptoBulkAll ds+1<=Rows.uptoBulk x.1/\∀ (i:Nat) cs d,css[i]?=some cs->ds[i]?=some d->cs.length=k/\∃ fuel pl,DataW.trod enc P w base spare held fuel e cs=some (d,pl):=by
 rcases open_slice ht h with ⟨hcs,_⟩|⟨a,len,cap,m,n,D,Pl,hcs,_,hl,hm,hmm,hxx,hi⟩
 ·injection hcs with hcs
  exact ⟨none,0,0,[],[],hcs,Rd.nil,rfl,rfl,by have:=q8h x.1;simp only [Rows.uptoBulkAll];omega,by simp⟩
 ·injection hcs with hcs
  have hlm:len<=m:=by rw [hmm];split <;> omega
  have hsum:Rows.uptoBulkAll ((List.range len).map D)+1<=Rows.uptoBulk x.1:=by rw [hxx];simp only [Rows.uptoBulk];omega
  have hDb:∀ i,i<len->Rows.uptoBulk (D i)<Rows.uptoBulk x.1:=λi hi'=>by
   have:=q8g (List.mem_map.2 ⟨i,List.mem_range.2 hi',rfl⟩:D i∈(List.range len).map D)
   omega
  have hex:∀ i,i<len->∃ cs',w.cells? base (a.add (i*k)) k=some cs'/\DataW.trod enc P w base spare held n e cs'=some (D i,Pl i):=λi hi'=>by
   have:=hi i (by omega)
   rwa [hC] at this
  obtain ⟨C,hCC⟩:=choose_lt (α:=List Value) (p:=λi cs'=>w.cells? base (a.add (i*k)) k=some cs'/\DataW.trod enc P w base spare held n e cs'=some (D i,Pl i)) hex
  have hlen:∀ i,i<len->(C i).length=k:=λi hi'=>(World.cells?_some (hCC i hi').1).2.1
  have hcell:∀ i,i<len->∀ j,j<k->w.cell? (a.add (i*k+j))=(C i)[j]?:=λi hi' j hj=>by
   have:=(World.cells?_some (hCC i hi').1).2.2 j hj
   rwa [Go.Deep.add_add] at this
  have hfl:∀ m',m'<=len->(((List.range m').map C).flatten).length=m'*k:=by
   intro m' hm'
   induction m' with
   |zero=>simp
   |succ m' ih =>
    rw [List.range_succ,List.map_append,List.flatten_append,x12q,ih (by omega)]
    simp [hlen m' (by omega),Nat.add_mul]
  have hget:∀ m',m'<=len->∀ i j,i<m'->j<k->(((List.range m').map C).flatten)[i*k+j]?=(C i)[j]?:=by
   intro m' hm'
   induction m' with
   |zero=>intro i j hi';omega
   |succ m' ih =>
    intro i j hi' hj
    rw [List.range_succ,List.map_append,List.flatten_append]
    rcases Nat.lt_or_ge i m' with h'|h'
    ·rw [List.getElem?_append_left (by
      rw [hfl m' (by omega)]
      have:(i+1)*k<=m'*k:=Nat.mul_le_mul_right k h'
      rw [Nat.add_mul] at this
      omega)]
     exact ih (by omega) i j h' hj
    ·have:i=m':=by omega
     subst this
     rw [List.getElem?_append_right (by rw [hfl i (by omega)];omega),hfl i (by omega)]
     simp
  refine ⟨some a,len,cap,(List.range len).map C,(List.range len).map D,hcs,⟨by rw [hfl len (Nat.le_refl _)],hl,hm,?_,?_⟩,by simp,by simp,hsum,?_⟩
  ·intro u hu
   obtain ⟨cs,hcs',hu'⟩:=List.mem_flatten.1 hu
   obtain ⟨i,hi',rfl⟩:=List.mem_map.1 hcs'
   exact hone n _ _ (hDb i (by simpa using hi')) (hCC i (by simpa using hi')).2 u hu'
  ·intro hpos
   have hl0:0<len:=Nat.pos_of_mul_pos_right hpos
   have h00:=hcell 0 hl0 0 hk
   have hc0:(C 0)[0]?=some ((C 0)[0]'(by rw [hlen 0 hl0];exact hk)):=List.getElem?_eq_getElem _
   rw [hc0] at h00
   have hadd:(a.add (0*k+0))=a:=by simp [Addr.add]
   rw [hadd] at h00
   obtain ⟨b,off,spot⟩:=a
   have hsp:spot=none:=by
    cases spot with
    |none=>rfl
    |some s =>
     unfold World.cell? at h00
     split at h00 <;> simp at h00
   subst hsp
   refine ⟨b,off,rfl,?_,?_⟩
   ·rcases Nat.lt_or_ge b w.heap.size with hlt|hge
    ·exact hlt
    ·unfold World.cell? at h00
     rw [Array.getElem?_eq_none hge] at h00
     cases h00
   ·intro j u hu
    have hjl:j<len*k:=by
     rw [←hfl len (Nat.le_refl _)]
     rcases Nat.lt_or_ge j ((List.range len).map C).flatten.length with h'|h'
     ·exact h'
     ·rw [List.getElem?_eq_none h'] at hu;cases hu
    have hdm:j / k*k+j % k=j:=by rw [Nat.mul_comm];exact Nat.div_add_mod j k
    have hdl:j / k<len:=(Nat.div_lt_iff_lt_mul hk).2 hjl
    have h1:=hcell (j / k) hdl (j % k) (Nat.mod_lt _ hk)
    have h2:=hget len (Nat.le_refl _) (j / k) (j % k) hdl (Nat.mod_lt _ hk)
    rw [hdm] at h1 h2
    rw [h2] at hu
    rw [hu] at h1
    rw [←h1]
    unfold Addr.add
    split
    ·rename_i h0;subst h0;rfl
    ·rfl
  ·intro i cs d h1 h2
   have hi':i<len:=by
    have:=(List.getElem?_eq_some_iff.1 h1).1
    simpa using this
   rw [x14q,List.getElem?_range hi'] at h1 h2
   simp only [x18q,Option.some.injEq] at h1 h2
   subst h1 h2
   exact ⟨hlen i hi',n,_,(hCC i hi').2⟩
end
def All2 {α β:Type} (R:α->β->Prop):List α->List β->Prop
 |[],[]=>True
 |a::l,b::m=>R a b/\All2 R l m
 |_,_=>False
theorem q1f {α β:Type} {R:α->β->Prop}:∀ {l:List α} {m:List β},l.length=m.length->(∀ (i:Nat) a b,l[i]?=some a->m[i]?=some b->R a b)->All2 R l m
 |[],[],_,_=>trivial
 |a::l,b::m,h,hR=>⟨hR 0 a b rfl rfl,q1f (by simpa using h) λi x y hx hy=>hR (i+1) x y hx hy⟩
 |[],_::_,h,_=>by cases h
 |_::_,[],h,_=>by cases h
theorem qyb {H:Type} {enc:TypeId×Value->H} {w:World} {t e:TypeId} {k fuel:Nat} {v:Value} {x:DataW H×List MemPlace} {τ:Type} (E:EC τ) (R:τ->DataW H->Prop) (ht:Tryz.prog.underlying t=some (.slice e)) (hC:Tryz.prog.cellsOf e=k) (hk:0<k)
  (h:DataW.trod enc Tryz.prog w 0 (λ_=>true) true fuel t [v]=some x)
  (hE:∀ fuel cs y,Rows.uptoBulk y.1<Rows.uptoBulk x.1->DataW.trod enc Tryz.prog w 0 (λ_=>true) true fuel e cs=some y->∃ a:τ,RepL (Zw w) cs (E.enc a)/\R a y.1) :
  ∃ (l:List τ) (ds:List (DataW H)),RepC (Zw w) v (.sl (E.encL l))/\Rows.uptoBulkAll ds+1<=Rows.uptoBulk x.1/\All2 R l ds:=by
 obtain ⟨A,n,c,css,ds,hv,hr,hn,hn',hsum,hcs⟩:=qum ht hC hk h (λfuel cs y hb hy u hu=>by
  obtain ⟨a,ha,_⟩:=hE fuel cs y hb hy
  obtain ⟨i,hi,rfl⟩:=List.getElem_of_mem hu
  have hx:i<(E.enc a).length:=by rw [←ha.len];exact hi
  exact (ha.get i _ _ (List.getElem?_eq_getElem hi) (List.getElem?_eq_getElem hx)).one)
 subst hv
 haveI:Inhabited τ:=⟨E.dec []⟩
 have hall:∀ i,i<css.length->∃ a:τ,(∀ cs,css[i]?=some cs->RepL (Zw w) cs (E.enc a))/\(∀ d,ds[i]?=some d->R a d):=λi hi=>by
  have hi':i<ds.length:=by omega
  obtain ⟨_,fuel,pl,hy⟩:=hcs i _ _ (List.getElem?_eq_getElem hi) (List.getElem?_eq_getElem hi')
  have hb:=q8g (List.getElem_mem hi')
  obtain ⟨a,ha,hra⟩:=hE fuel _ _ (by show Rows.uptoBulk ds[i]<_;omega) hy
  exact ⟨a,λcs h=>by rw [List.getElem?_eq_getElem hi] at h;injection h with h;subst h;exact ha,λd h=>by rw [List.getElem?_eq_getElem hi'] at h;injection h with h;subst h;exact hra⟩
 obtain ⟨F,hF⟩:=choose_lt (α:=τ) (n:=css.length) hall
 refine ⟨(List.range css.length).map F,ds,rd_rep hr hn (qte ht h) hk (λcs hc=>by
  obtain ⟨i,hi,rfl⟩:=List.getElem_of_mem hc
  exact (hcs i _ _ (List.getElem?_eq_getElem hi) (List.getElem?_eq_getElem (show i<ds.length by omega))).1) (by simp [EC.encL]) ?_,hsum,q1f (by simp;omega) ?_⟩
 ·intro i cs e h1 h2
  have hi:i<css.length:=(List.getElem?_eq_some_iff.1 h1).1
  rw [EC.encL,x14q,x14q,List.getElem?_range hi] at h2
  simp only [x18q,Option.some.injEq] at h2
  subst h2
  exact (hF i hi).1 cs h1
 ·intro i a d h1 h2
  have hi:i<css.length:=by have:=(List.getElem?_eq_some_iff.1 h1).1;simpa using this
  rw [x14q,List.getElem?_range hi] at h1
  simp only [x18q,Option.some.injEq] at h1
  subst h1
  exact (hF i hi).2 d h2
theorem two {α:Type} {l:List α} (h:l.length=2):∃ a b,l=[a,b]:=by
 match l,h with
 |[a,b],_=>exact ⟨a,b,rfl⟩
theorem three {α:Type} {l:List α} (h:l.length=3):∃ a b c,l=[a,b,c]:=by
 match l,h with
 |[a,b,c],_=>exact ⟨a,b,c,rfl⟩
theorem five {α:Type} {l:List α} (h:l.length=5):∃ a b c d e,l=[a,b,c,d,e]:=by
 match l,h with
 |[a,b,c,d,e],_=>exact ⟨a,b,c,d,e,rfl⟩
section
variable {H:Type} {enc:TypeId×Value->H} {w:World}
theorem q17n {a:BA} {x:DataW H×List MemPlace} {q:List MemPlace} (h:x=(.lit (.string a.data.toList),q)):a.size+1=Rows.uptoBulk x.1:=by
 subst h
 simp only [Rows.uptoBulk,x24q]
 rfl
theorem qul {fuel:Nat} {cs:List Value} {y:DataW H×List MemPlace} (hb:Rows.uptoBulk y.1<=2000000) (h:DataW.trod enc Tryz.prog w 0 (λ_=>true) true fuel 73 cs=some y) :
  ∃ a:S73,RepL (Zw w) cs (qd1.enc a)/\a.Address.size<=2000000:=by
 obtain ⟨xs,n,_,hx,hl,hxl,hf⟩:=DataW.trod_struct Tryz.underlying73 h
 have hc:Tryz.prog.cellsOf 73=2:=by kernel_rfl
 have c1:Tryz.prog.cellsOf 3=1:=by kernel_rfl
 have c2:Tryz.prog.cellsOf 9=1:=by kernel_rfl
 rw [hc] at hl
 obtain ⟨u0,u1,rfl⟩:=two hl
 obtain ⟨x0,x1,rfl⟩:=two hxl
 have h0:DataW.trod enc Tryz.prog w 0 (λ_=>true) true n 9 [u0]=some x0:=by have:=hf 0 _ rfl;simpa [c2] using this
 have h1:DataW.trod enc Tryz.prog w 0 (λ_=>true) true n 3 [u1]=some x1:=by have:=hf 1 _ rfl;simpa [c1] using this
 obtain ⟨a0,e0,z0,_⟩:=DataW.trod_string Tryz.underlying9 h0
 obtain ⟨a1,e1,_,_⟩:=DataW.trod_int Tryz.underlying3 h1
 injection e0 with e0;injection e1 with e1
 subst e0 e1
 have hs:=q17n z0
 have hbulk:Rows.uptoBulk x0.1<=2000000:=by
  rw [hx] at hb
  simp only [Rows.uptoBulk,List.map_cons,Rows.uptoBulkAll] at hb
  omega
 refine ⟨⟨a0,a1⟩,?_,?_⟩
 ·rw [qde]
  exact ⟨.str _,.int _ _,trivial⟩
 ·show a0.size<=2000000
  omega
theorem quh {fuel:Nat} {cs:List Value} {y:DataW H×List MemPlace} (h:DataW.trod enc Tryz.prog w 0 (λ_=>true) true fuel 71 cs=some y) :
  ∃ a:S71,RepL (Zw w) cs (qd0.enc a)/\True:=by
 obtain ⟨xs,n,_,hx,hl,hxl,hf⟩:=DataW.trod_struct Tryz.underlying71 h
 have hc:Tryz.prog.cellsOf 71=2:=by kernel_rfl
 have c2:Tryz.prog.cellsOf 9=1:=by kernel_rfl
 rw [hc] at hl
 obtain ⟨u0,u1,rfl⟩:=two hl
 obtain ⟨x0,x1,rfl⟩:=two hxl
 have h0:DataW.trod enc Tryz.prog w 0 (λ_=>true) true n 9 [u0]=some x0:=by have:=hf 0 _ rfl;simpa [c2] using this
 have h1:DataW.trod enc Tryz.prog w 0 (λ_=>true) true n 9 [u1]=some x1:=by have:=hf 1 _ rfl;simpa [c2] using this
 obtain ⟨a0,e0,z0,_⟩:=DataW.trod_string Tryz.underlying9 h0
 obtain ⟨a1,e1,_,_⟩:=DataW.trod_string Tryz.underlying9 h1
 injection e0 with e0;injection e1 with e1
 subst e0 e1
 refine ⟨⟨a0,a1⟩,?_,trivial⟩
 rw [qdd]
 exact ⟨.str _,.str _,trivial⟩
theorem qug {fuel:Nat} {cs:List Value} {y:DataW H×List MemPlace} (h:DataW.trod enc Tryz.prog w 0 (λ_=>true) true fuel 5 cs=some y) :
  ∃ a:Int,RepL (Zw w) cs (qcy.enc a)/\(0<=a/\a<256):=by
 obtain ⟨a0,e0,_,hw⟩:=DataW.trod_int Tryz.underlying5 h
 subst e0
 simp only [Lit.wf,x6q,decide_eq_true_eq] at hw
 have h1:IntKind.u8.min=0:=rfl
 have h2:IntKind.u8.max=255:=rfl
 exact ⟨a0,⟨.int _ _,trivial⟩,by omega⟩
theorem q1g {R:S73->Prop}:∀ {l:List S73} {ds:List (DataW H)},All2 (λa _=>R a) l ds->(∀ x∈l,R x)/\l.length=ds.length
 |[],[],_=>⟨by simp,rfl⟩
 |a::l,d::ds,h=>by
  obtain ⟨h1,h2⟩:=q1g h.2
  exact ⟨λx hx=>by rcases List.mem_cons.1 hx with rfl|hx;exact h.1;exact h1 x hx,by simp [h2]⟩
 |[],_::_,h=>h.elim
 |_::_,[],h=>h.elim
theorem q1h:∀ {l:List Int} {ds:List (DataW H)},All2 (λa _=>0<=a/\a<256) l ds->U8 l
 |[],[],_=>λx hx=>by cases hx
 |a::l,d::ds,h=>λx hx=>by
  rcases List.mem_cons.1 hx with rfl|hx
  ·exact h.1
  ·exact q1h h.2 x hx
 |[],_::_,h=>h.elim
 |_::_,[],h=>h.elim
theorem q1e {α β:Type} {R:α->β->Prop}:∀ {l:List α} {m:List β},All2 R l m->l.length=m.length
 |[],[],_=>rfl
 |_::l,_::m,h=>by simp [q1e h.2]
 |[],_::_,h=>h.elim
 |_::_,[],h=>h.elim
set_option maxRecDepth 100000 in
theorem qui {d:DataW H} {p:List MemPlace} {v:Value} (hv:∃ cs:Array Value,v=.agg cs/\cs.size=Tryz.prog.cellsOf 30) (hb:Rows.uptoBulk d<=1048576) (h:DataW.Trod enc Tryz.prog w 0 (λ_=>true) true 30 v d p) :
  ∃ (f:BA) (rc:List S73) (e:BA) (fs:List S71) (bd:List Int),Rep (Zw w) (λ_ _=>none) noM v (.agg [.c (.str f),.c (.sl (qd1.encL rc)),.c (.str e),.c (.sl (qd0.encL fs)),.c (.sl (qcy.encL bd))])/\MlOk f rc bd/\U8 bd:=by
 obtain ⟨cs,rfl,hsz⟩:=hv
 obtain ⟨fuel,h⟩:=h
 obtain ⟨xs,n,_,hx,hl,hxl,hf⟩:=DataW.trod_struct Tryz.underlying30 h
 have hc:Tryz.prog.cellsOf 30=5:=by kernel_rfl
 have c1:Tryz.prog.cellsOf 24=3:=by kernel_rfl
 have c2:Tryz.prog.cellsOf 28=2:=by kernel_rfl
 have c3:Tryz.prog.cellsOf 9=1:=by kernel_rfl
 have c4:Tryz.prog.cellsOf 22=1:=by kernel_rfl
 have c5:Tryz.prog.cellsOf 25=1:=by kernel_rfl
 have c6:Tryz.prog.cellsOf 26=1:=by kernel_rfl
 rw [hc] at hl
 obtain ⟨l⟩:=cs
 obtain ⟨u0,u1,u2,u3,u4,rfl⟩:=five hl
 obtain ⟨x0,x1,rfl⟩:=two hxl
 have h0:DataW.trod enc Tryz.prog w 0 (λ_=>true) true n 24 [u0,u1,u2]=some x0:=by have:=hf 0 _ rfl;simpa [Value.cells,c1] using this
 have h1:DataW.trod enc Tryz.prog w 0 (λ_=>true) true n 28 [u3,u4]=some x1:=by have:=hf 1 _ rfl;simpa [Value.cells,c2] using this
 obtain ⟨ys,n1,_,hy,hyl,hyn,hg⟩:=DataW.trod_struct Tryz.underlying24 h0
 obtain ⟨zs,n2,_,hz,hzl,hzn,hk⟩:=DataW.trod_struct Tryz.underlying28 h1
 obtain ⟨y0,y1,y2,rfl⟩:=three hyn
 obtain ⟨z0,z1,rfl⟩:=two hzn
 have g0:DataW.trod enc Tryz.prog w 0 (λ_=>true) true n1 9 [u0]=some y0:=by have:=hg 0 _ rfl;simpa [c3] using this
 have g1:DataW.trod enc Tryz.prog w 0 (λ_=>true) true n1 22 [u1]=some y1:=by have:=hg 1 _ rfl;simpa [c4] using this
 have g2:DataW.trod enc Tryz.prog w 0 (λ_=>true) true n1 9 [u2]=some y2:=by have:=hg 2 _ rfl;simpa [c3] using this
 have k0:DataW.trod enc Tryz.prog w 0 (λ_=>true) true n2 25 [u3]=some z0:=by have:=hk 0 _ rfl;simpa [c5] using this
 have k1:DataW.trod enc Tryz.prog w 0 (λ_=>true) true n2 26 [u4]=some z1:=by have:=hk 1 _ rfl;simpa [c6] using this
 obtain ⟨a0,e0,b0,_⟩:=DataW.trod_string Tryz.underlying9 g0
 obtain ⟨a2,e2,b2,_⟩:=DataW.trod_string Tryz.underlying9 g2
 injection e0 with e0;injection e2 with e2
 subst e0 e2
 have hs0:=q17n b0
 have hs2:=q17n b2
 have hall:Rows.uptoBulk y0.1+Rows.uptoBulk y1.1+Rows.uptoBulk y2.1+Rows.uptoBulk z0.1+Rows.uptoBulk z1.1<=1048576:=by
  have ed:=congrArg Prod.fst hx
  simp only [List.map_cons,List.map_nil] at ed
  rw [ed,hy,hz] at hb
  simp only [Rows.uptoBulk,List.map_cons,List.map_nil,Rows.uptoBulkAll] at hb
  omega
 obtain ⟨rc,ds,r1,hsum,q1⟩:=qyb (k:=2) qd1 (λa _=>a.Address.size<=2000000) Tryz.underlying22 (by kernel_rfl) (by decide) g1 (λfuel cs y hlt hy=>qul (by omega) hy)
 obtain ⟨fs,ds',r3,hsum',q3⟩:=qyb (k:=2) qd0 (λ_ _=>True) Tryz.underlying25 (by kernel_rfl) (by decide) k0 (λfuel cs y hlt hy=>quh hy)
 obtain ⟨bd,ds2,r4,hsum2,q4⟩:=qyb (k:=1) qcy (λa _=>0<=a/\a<256) Tryz.underlying26 (by kernel_rfl) (by decide) k1 (λfuel cs y hlt hy=>qug hy)
 obtain ⟨q5,q6⟩:=q1g q1
 have q7:=q1e q3
 have q8:=q1e q4
 have w1:=q8f ds
 have w2:=q8f ds'
 have w3:=q8f ds2
 refine ⟨a0,rc,a2,fs,bd,RepL.agg (us:=[.string a0,u1,.string a2,u3,u4]) (xs:=[.str a0,.sl (qd1.encL rc),.str a2,.sl (qd0.encL fs),.sl (qcy.encL bd)]) ⟨.str _,r1,.str _,r3,r4,trivial⟩,⟨by omega,by omega,q5,by omega⟩,q1h q4⟩
theorem quj {fuel:Nat} {cs:List Value} {y:DataW H×List MemPlace} (h:DataW.trod enc Tryz.prog w 0 (λ_=>true) true fuel 9 cs=some y) :
  ∃ a:BA,RepL (Zw w) cs (qd2.enc a)/\True:=by
 obtain ⟨a,e,_,_⟩:=DataW.trod_string Tryz.underlying9 h
 subst e
 exact ⟨a,⟨.str _,trivial⟩,trivial⟩
theorem quk {d:DataW H} {p:List MemPlace} {v:Value} (hv:∃ a n c,v=.slice a n c) (h:DataW.Trod enc Tryz.prog w 0 (λ_=>true) true 32 v d p) :
  ∃ l:List BA,Rep (Zw w) (λ_ _=>none) noM v (.c (.sl (qd2.encL l))):=by
 obtain ⟨a,n,c,rfl⟩:=hv
 obtain ⟨fuel,hf⟩:=h
 obtain ⟨l,ds,rc,_,_⟩:=qyb (k:=1) qd2 (λ_ _=>True) Tryz.underlying32 (by kernel_rfl) (by decide) hf (λfuel cs y _ hy=>quj hy)
 exact ⟨l,.c rc⟩
theorem qun {d:DataW H} {p:List MemPlace} {v:Value} (hv:∃ s,v=.string s) (hb:Rows.uptoBulk d<=1048576) (h:DataW.Trod enc Tryz.prog w 0 (λ_=>true) true 9 v d p) :
  ∃ x:BA,Rep (Zw w) (λ_ _=>none) noM v (.c (.str x))/\x.size<=1048576:=by
 obtain ⟨s,rfl⟩:=hv
 obtain ⟨fuel,h⟩:=h
 obtain ⟨a,e,z,_⟩:=DataW.trod_string Tryz.underlying9 h
 injection e with e
 injection e with e
 subst e
 have:=q17n z
 simp only at this
 exact ⟨s,.c (.str _),by omega⟩
theorem qup {v:Value} (hv:∃ n,v=.int .u64 n):∃ n:Int,Rep (Zw w) (λ_ _=>none) noM v (.c (.int .u64 n)):=by
 obtain ⟨n,rfl⟩:=hv
 exact ⟨n,.c (.int _ _)⟩
end
end Go.Proofs.YtmlcmoaonaomfaaGreatDoor
namespace Go.Proofs.YtmlcmoaonaomfaaGreatDoor
open Go.ChangeShapes Go.WideShapes Go.ChangeAt Go.ChangeMaps Go.RowKit Go.Deep
theorem moR_ok:Tryz.prog.follows .mixedOrders=true:=by kernel_rfl
theorem qpx {f:FuncId} {args:List V} {cargs:Array Value} {W:World} (hC:Call Tryz.prog lv X0 f args=some (.c (.bool true),[])) (hG:GW W) (hsz:cargs.size=args.length)
  (hrep:∀ (i:Nat) u x,cargs[i]?=some u->args[i]?=some x->Rep (Zw W) (λ_ _=>none) noM u x):Calls Tryz.prog f cargs W λe W'=>e=.returned (.bool true)/\Bel W W':=by
 have ok:=qh Tryz.prog lv X0 moR_ok X0_ok hC
 refine (ok.2.2 W (Zw W) (λ_ _=>none) cargs hG (λ_ _ _ h=>h) (λ_ _ _ h=>by cases h) hsz hrep).mono λe W'=>?_
 rintro ⟨cv,Z',m',rfl,_,R,r,_⟩
 cases r with
 |c r =>
 cases r
 exact ⟨rfl,q1el.1 R.bel⟩
def RepA (W:World):List Value->List V->Prop
 |[],[]=>True
 |u::us,x::xs=>Rep (Zw W) (λ_ _=>none) noM u x/\RepA W us xs
 |_,_=>False
theorem RepA.get {W:World}:∀ {us:List Value} {xs:List V},RepA W us xs->us.length=xs.length/\∀ (i:Nat) u x,us[i]?=some u->xs[i]?=some x->Rep (Zw W) (λ_ _=>none) noM u x
 |[],[],_=>⟨rfl,λi u x h _=>by simp at h⟩
 |u::us,x::xs,h=>by
  obtain ⟨h1,h2⟩:=RepA.get h.2
  refine ⟨by simp [h1],λi u' x' hu hx=>?_⟩
  cases i with
  |zero=>simp at hu hx;subst hu hx;exact h.1
  |succ i=>simp at hu hx;exact h2 i u' x' hu hx
 |[],_::_,h=>h.elim
 |_::_,[],h=>h.elim
def laidL : List (String × DataW Unit) := [("math/bits.deBruijn32tab", Rows.laid_math_bits_deBruijn32tab), ("math/bits.deBruijn64tab", Rows.laid_math_bits_deBruijn64tab), ("internal/strconv.uint64pow10", Rows.laid_internal_strconv_uint64pow10), ("unicode/utf8.acceptRanges", Rows.laid_unicode_utf8_acceptRanges), ("strconv.ErrRange", Rows.laid_strconv_ErrRange), ("strconv.ErrSyntax", Rows.laid_strconv_ErrSyntax), ("unicode/utf8.first", Rows.laid_unicode_utf8_first)]
theorem q1dq {H:Type} {enc:TypeId×Value->H} {P:Program} {w:World} {base:Nat} {spare:Nat->Bool} {held:Bool} {fuel:Nat} {t:TypeId} {ms:Array (String×TypeId)} {cs:List Value} {x:DataW H×List MemPlace}
  (ht:P.underlying t=some (.interface ms)) (h:DataW.trod enc P w base spare held fuel t cs=some x):cs=[.nilIface]∨∃ te pe,cs=[.iface te pe]:=by
 cases fuel with
 |zero=>simp [DataW.trod] at h
 |succ fuel =>
  simp only [DataW.trod,ht] at h
  split at h <;> first|(exact .inl rfl)|(exact .inr ⟨_,_,rfl⟩)|simp_all
theorem qaq {P:Program} {w:World} {name:String} {g:Nat} {t:TypeId} {ms:Array (String×TypeId)} {D:DataW Unit} (hr:Lib.VarReads P w name D) (hg:P.globalNamed name=some g) (ht:(P.globals[g]?).map (·.type)=some t) (hu:P.underlying t=some (.interface ms)) :
  ∃ ev,w.cell? ⟨g,0,none⟩=some ev/\(ev=.nilIface∨∃ te pe,ev=.iface te pe):=by
 obtain ⟨g',t',cs,fuel,p,h1,h2,h3,h4⟩:=hr
 obtain rfl:=Option.some.inj (hg.symm.trans h1)
 obtain rfl:=Option.some.inj (ht.symm.trans h2)
 have hc:=World.var?_cell h1 h3 0
 rcases q1dq hu h4 with e|⟨te,pe,e⟩
 ·exact ⟨.nilIface,by rw [hc,←Array.getElem?_toList,e];rfl,.inl rfl⟩
 ·exact ⟨.iface te pe,by rw [hc,←Array.getElem?_toList,e];rfl,.inr ⟨_,_,rfl⟩⟩
theorem gw_row {W:World} (hs:W.ShapedOpen Tryz.prog) (hl:laidMetH Tryz.prog laidL W):GW W:=by
 have hl':laidMet Tryz.prog laidL W:=hl
 obtain ⟨g,t,cs,fuel,p,h1,h2,h3,h4⟩:=Lib.laidMet.reads hl' (.tail _ (.tail _ (.head _)))
 have hg : Tryz.prog.globalNamed "internal/strconv.uint64pow10" = some 1 := by kernel_rfl
 have ht:(Tryz.prog.globals[1]?).map (·.type)=some 244:=by kernel_rfl
 obtain rfl:=Option.some.inj (hg.symm.trans h1)
 obtain rfl:=Option.some.inj (ht.symm.trans h2)
 have hd:(Rows.laid_internal_strconv_uint64pow10:DataW Unit)=Lib.tabData .u64 Lib.pow10Tab:=by rfl
 rw [hd] at h4
 have hc:=Lib.cells_of_tab (n:=20) Tryz.underlying244 Tryz.underlying31 (by kernel_rfl) (by kernel_rfl) h4
 refine ⟨Go.Proofs.cell_of_shapedOpen_int (zero:=#[.int .i64 0]) (t:=3) hs (of_decide_eq_true (by kernel_rfl)) (by kernel_rfl) rfl (by kernel_rfl) (by kernel_rfl) Tryz.underlying3,?_,
  qaq (Lib.laidMet.reads hl' (.tail _ (.tail _ (.tail _ (.tail _ (.tail _ (.head _))))))) (by kernel_rfl) (by kernel_rfl) Tryz.underlying141,
  qaq (Lib.laidMet.reads hl' (.tail _ (.tail _ (.tail _ (.tail _ (.head _)))))) (by kernel_rfl) (by kernel_rfl) Tryz.underlying141,trivial⟩
 simp only [World.var?,hg,x0q] at h3
 split at h3
 ·rename_i cs' t' fz hh
  injection h3 with h3
  subst h3
  refine ⟨t',fz,?_⟩
  rw [hh]
  congr 2
  apply Array.ext'
  rw [hc]
 ·cases h3
abbrev synS:BA:=⟨#[105,110,118,97,108,105,100,32,115,121,110,116,97,120]⟩
abbrev ranS:BA:=⟨#[118,97,108,117,101,32,111,117,116,32,111,102,32,114,97,110,103,101]⟩
noncomputable def lowBlk:Nat:=(World.holding Tryz.prog default ⟨#[],#[],[]⟩).heap.size
noncomputable def laidWorld (os:Os) (args:Array Value):World :=
 let w0:=World.holding Tryz.prog os ⟨#[.cells #[.string ranS] 308,.cells #[.string synS] 308],args,[]⟩
 let put (h:Array Obj) (g:Nat) (cs:Array Value):Array Obj:=h.modify g fun
  |.cells _ t frozen=>.cells cs t frozen
  |o=>o
 let ints (d:DataW Unit):Array Value:=match d with
  |.agg ds=>(ds.map λx=>match x with|.lit (.int k z)=>Value.int k z|_=>.nilFunc).toArray
  |_=>#[]
 let pairs (d:DataW Unit):Array Value:=match d with
  |.agg ds=>(ds.map λx=>ints x).foldl (λa b=>a++b) #[]
  |_=>#[]
 let h1:=put w0.heap 4 (ints Rows.laid_math_bits_deBruijn32tab)
 let h2:=put h1 5 (ints Rows.laid_math_bits_deBruijn64tab)
 let h3:=put h2 1 (ints Rows.laid_internal_strconv_uint64pow10)
 let h4:=put h3 7 #[.iface 306 (.pointer (some ⟨lowBlk,0,none⟩))]
 let h5:=put h4 6 #[.iface 306 (.pointer (some ⟨lowBlk+1,0,none⟩))]
 let h6:=put h5 3 (pairs Rows.laid_unicode_utf8_acceptRanges)
 let h7:=put h6 2 (ints Rows.laid_unicode_utf8_first)
 { w0 with heap:=h7 }
theorem qpp (os:Os) (args:Array Value):laidMetH Tryz.prog laidL ((laidWorld os args).forCall (λ_ _=>0) ⟨#[],args,[]⟩).memory:=by
 have h:LaidIn Tryz.prog ((laidWorld os args).forCall (λ_ _=>0) ⟨#[],args,[]⟩).memory laidL [4,5,1,3,7,lowBlk,6,lowBlk+1,2] :=
  LaidIn.of_run [4,5,1,3,7,lowBlk,6,lowBlk+1,2] 8 (by kernel_rfl) (by kernel_rfl) (by kernel_rfl) (by kernel_rfl)
 exact h.met
end Go.Proofs.YtmlcmoaonaomfaaGreatDoor
