/- A script that the caller hands in, opened; what its bulk bounds. -/
import Derived.Test.YtmlcmoaonaomfaaGreatDoorZ24
import Derived.Test.YtmlcmoaonaomfaaGreatDoorRows
import Derived.Shelf.Strings.Builder1
import Derived.Shelf.Strings.Builder2
import Derived.Shelf.Strings.OnBuilder
import Derived.Shelf.Small.Utf8
import Derived.Shelf.Small.Strs
import Derived.Shelf.Strings.BuilderF
import Derived.Shelf.Strings.Builder2Cap
import Derived.Shelf.Strconv.Atoi
import Derived.Shelf.Strconv.Itoa0
import Derived.Shelf.Strconv.Itoa1
import Derived.Shelf.LaysM
import Derived.Shelf.Strconv.Itoa2
import Derived.Shelf.Strconv.Itoa3
import Derived.Shelf.Strconv.AtoiErrFast
import Derived.Shelf.Strconv.ParseIntEmpty
import Derived.Shelf.Strconv.AtoiFail
import Derived.Shelf.Strconv.Clone
import Derived.Shelf.Strconv.SyntaxError
import Derived.Shelf.LaysC
import Derived.Shelf.Strconv.ToError
import Derived.Shelf.Strconv.Lower
import Derived.Shelf.Strconv.ParseUint10
import Derived.Shelf.Strconv.ParseUint10Empty
import Derived.Shelf.Strconv.ParseUint10Any
import Derived.Shelf.Strconv.ParseInt10
import Derived.Shelf.Strconv.AtoiLong
import Derived.Shelf.Strconv.AtoiInnerAll
import Derived.Shelf.Strconv.RangeError
import Derived.Shelf.Strconv.ToErrorRange
import Derived.Shelf.Strconv.AtoiAll
import Derived.Shelf.Strings.Search1
import Derived.Shelf.Strings.Search2
import Derived.Shelf.Strings.Search3
import Derived.Shelf.Strings.Cut
import Derived.Shelf.Strings.Count
import Derived.Shelf.Strings.Shaped
import Derived.Shelf.Strings.Prefix
import Derived.Shelf.Strings.Runes
import Derived.Shelf.Strings.IndexAny
import Derived.Shelf.Strings.AsciiSet
import Derived.Shelf.Strings.IndexAnyAll
import Derived.Shelf.Bits.Mul64
import Derived.Shelf.Strings.Repeat
import Derived.Shelf.Bytes.SlIndexSmall
import Derived.Shelf.Bytes.SlIndexAt
import Derived.Shelf.Bytes.SlSearch0
import Derived.Shelf.Bytes.SlSearch1
import Derived.Shelf.Bytes.SlSearch2
import Derived.Shelf.Bytes.SlIndexWhole
import Derived.Shelf.Bytes.Small
import Derived.Shelf.Bytes.IndexByte
import Derived.WalkMore
namespace Go.Proofs.YtmlcmoaonaomfaaGreatDoor
open Go.ChangeShapes Go.WideShapes Go.ChangeAt Go.RowKit Go.Deep
theorem q8o {H:Type} (d:DataW H):1<=Rows.uptoBulk d:=by
 cases d with
 |lit l=>cases l <;> simp [Rows.uptoBulk]
 |nil=>simp [Rows.uptoBulk]
 |ptr d=>simp [Rows.uptoBulk]
 |slice elems spare=>simp [Rows.uptoBulk]
 |agg parts=>simp [Rows.uptoBulk]
 |iface t d=>simp [Rows.uptoBulk]
 |map entries=>simp [Rows.uptoBulk]
 |held h=>simp [Rows.uptoBulk]
theorem q8m {H:Type}:∀ l:List (DataW H),l.length<=Rows.uptoBulkAll l
 |[]=>by simp
 |x::r=>by have:=q8o x;have:=q8m r;simp only [Rows.uptoBulkAll,x9q];omega
theorem q8n {H:Type} {d:DataW H}:∀ {l:List (DataW H)},d∈l->Rows.uptoBulk d<=Rows.uptoBulkAll l
 |x::r,h=>by
  simp only [Rows.uptoBulkAll];rcases y32q.1 h with rfl|h
  ·omega
  ·have:=q8n h;omega
theorem q8p {H:Type} {l:List (DataW H)} (hk:Rows.uptoSmall H l=true):Rows.uptoBulkAll l<=1048576:=of_decide_eq_true hk
def Zw (w:World):ZMap:=λb o=>w.cell? ⟨b,o,none⟩
def RepL (Z:ZMap):List Value->List C->Prop
 |[],[]=>True
 |u::us,x::xs=>RepC Z u x/\RepL Z us xs
 |_,_=>False
theorem RepL.len {Z:ZMap}:∀ {us:List Value} {xs:List C},RepL Z us xs->us.length=xs.length
 |[],[],_=>rfl
 |u::us,x::xs,h=>by simp [RepL.len h.2]
 |[],_::_,h=>h.elim
 |_::_,[],h=>h.elim
theorem RepL.get {Z:ZMap}:∀ {us:List Value} {xs:List C},RepL Z us xs->∀ (i:Nat) u x,us[i]?=some u->xs[i]?=some x->RepC Z u x
 |[],[],_,i,u,x,h,_=>by simp at h
 |u::us,x::xs,h,i,u',x',h1,h2=>by
  cases i with
  |zero=>simp at h1 h2;subst h1 h2;exact h.1
  |succ i=>simp at h1 h2;exact RepL.get h.2 i u' x' h1 h2
 |[],_::_,h,_,_,_,_,_=>h.elim
 |_::_,[],h,_,_,_,_,_=>h.elim
theorem RepL.agg {Z Y:ZMap} {m:Nat->Oq Value} {us:List Value} {xs:List C} (h:RepL Z us xs):Rep Z Y m (.agg us.toArray) (.agg (xs.map .c)):=by
 refine .agg _ _ (by simp [h.len]) ?_ ?_
 ·intro u hu
  obtain ⟨i,hi,rfl⟩:=List.getElem_of_mem (by simpa using hu)
  have hx:i<xs.length:=by rw [←h.len];exact hi
  exact (h.get i _ _ (y1q hi) (y1q hx)).one
 ·intro i u x hu hx
  rw [x14q] at hx;cases hy:xs[i]? with
  |none=>rw [hy] at hx;cases hx
  |some y =>
   rw [hy] at hx;injection hx with hx;subst hx
   exact .c (h.get i u y (by simpa using hu) hy)
theorem qj2 {α:Type} {k:Nat}:∀ {css:List (List α)},(∀ cs∈css,cs.length=k)->∀ (i j:Nat) cs,css[i]?=some cs->j<k->css.flatten[i*k+j]?=cs[j]?
 |[],_,i,j,cs,h,_=>by simp at h
 |c::css,hk,i,j,cs,h,hj=>by
  have hc:c.length=k:=hk c (by simp)
  cases i with
  |zero =>
   simp at h;subst h;rw [List.flatten_cons,y42q (by omega)]
   simp
  |succ i =>
   simp at h;rw [List.flatten_cons,y39q (by rw [hc,Nat.add_mul];omega),←qj2 (λd hd=>hk d (by simp [hd])) i j cs h hj]
   congr 1;rw [hc,Nat.add_mul];omega
theorem rd_rep {w:World} {k n c:Nat} {A:Oq Addr} {css:List (List Value)} {es:List (List C)} (hr:Rd w k A n c css.flatten) (hn:css.length=n) (hN:A=none->c=0) (hk:0<k) (hcs:∀ cs∈css,cs.length=k) (hl:es.length=css.length)
  (he:∀ (i:Nat) cs e,css[i]?=some cs->es[i]?=some e->RepL (Zw w) cs e):RepC (Zw w) (.slice A n c) (.sl es):=by
 have helen:∀ e∈es,e.length=k:=λe hm=>by
  obtain ⟨i,hi,rfl⟩:=List.getElem_of_mem hm;have hx:i<css.length:=by omega
  rw [←(he i _ _ (y1q hx) (y1q hi)).len];exact hcs _ (y24q hx)
 by_cases h0:es=[]
 ·subst h0
  have:n=0:=by rw [←hn,←hl];rfl
  exact .sl A n c k 0 0 (λ_=>.nilFunc) [] (by simp [this]) hr.le hr.2.2.1 (by simp) (by simp) (by simp) (by simp) hN
 ·have hn0:0<n*k:=by
   have:0<es.length:=List.length_pos_iff.2 h0;exact Nat.mul_pos (by omega) hk
  obtain ⟨b,off,hA,_,hcell⟩:=hr.place hn0;have hget:∀ (i:Nat) (e:List C) (j:Nat) (x:C),es[i]?=some e->e[j]?=some x->∃ u,css.flatten[i*k+j]?=some u/\RepC (Zw w) u x:=by
   intro i e j x h1 h2;have hi:i<css.length:=by have:=(y2q.1 h1).1;omega
   have hj:j<k:=by rw [←helen e (y10q h1)];exact (y2q.1 h2).1
   have hcl:=hcs _ (y24q hi);have hu:css[i][j]?=some (css[i][j]'(by omega)):=y1q _
   exact ⟨_,by rw [qj2 hcs i j css[i] (y1q hi) hj,hu],(he i _ e (y1q hi) h1).get j _ x hu h2⟩
  refine .sl A n c k b off (λj=>(css.flatten[j]?).getD .nilFunc) es (by omega) hr.le hr.2.2.1 helen (λ_=>hA) ?_ ?_ hN
  ·intro i e j x h1 h2
   obtain ⟨u,hu,_⟩:=hget i e j x h1 h2;simp only [hu,Option.getD_some];exact hcell _ _ hu
  ·intro i e j x h1 h2
   obtain ⟨u,hu,hr'⟩:=hget i e j x h1 h2;simp only [hu,Option.getD_some];exact hr'
theorem quv {H:Type} {enc:TypeId×Value->H} {P:Program} {w:World} {base:Nat} {spare:Nat->Bool} {held:Bool} {t e:TypeId} {fuel n c:Nat} {A:Oq Addr} {x:DataW H×List MemPlace} (ht:P.underlying t=some (.slice e))
  (h:DataW.trod enc P w base spare held fuel t [.slice A n c]=some x):A=none->c=0:=by
 intro hA;subst hA;rcases open_slice ht h with ⟨hcs,_⟩|⟨a,len,cap,m,n',D,Pl,hcs,_⟩
 ·injection hcs with hcs
  injection hcs
 ·injection hcs with hcs
  injection hcs with h1;cases h1
section
variable {H:Type} {enc:TypeId×Value->H} {P:Program}
theorem qwi {w:World} {base:Nat} {spare:Nat->Bool} {held:Bool} {t e:TypeId} {k fuel:Nat} {v:Value} {x:DataW H×List MemPlace} (ht:P.underlying t=some (.slice e)) (hC:P.cellsOf e=k) (hk:0<k)
  (h:DataW.trod enc P w base spare held fuel t [v]=some x) (hone:∀ fuel cs y,Rows.uptoBulk y.1<Rows.uptoBulk x.1->DataW.trod enc P w base spare held fuel e cs=some y->∀ u∈cs,u.oneCell'=true) :
  ∃ A n c css ds,v=.slice A n c/\Rd w k A n c (List.flatten css)/\css.length=n/\ds.length=n/\Rows.uptoBulkAll ds+1<=Rows.uptoBulk x.1/\∀ (i:Nat) cs d,css[i]?=some cs->ds[i]?=some d->cs.length=k/\∃ fuel pl,DataW.trod enc P w base spare held fuel e cs=some (d,pl):=by
 rcases open_slice ht h with ⟨hcs,_⟩|⟨a,len,cap,m,n,D,Pl,hcs,_,hl,hm,hmm,hxx,hi⟩
 ·injection hcs with hcs
  exact ⟨none,0,0,[],[],hcs,Rd.nil,rfl,rfl,by have:=q8o x.1;simp only [Rows.uptoBulkAll];omega,by simp⟩
 ·injection hcs with hcs
  have hlm:len<=m:=by rw [hmm];split <;> omega
  have hsum:Rows.uptoBulkAll ((List.range len).map D)+1<=Rows.uptoBulk x.1:=by rw [hxx];simp only [Rows.uptoBulk];omega
  have hDb:∀ i,i<len->Rows.uptoBulk (D i)<Rows.uptoBulk x.1:=λi hi'=>by have:=q8n (List.mem_map.2 ⟨i,List.mem_range.2 hi',rfl⟩:D i∈(List.range len).map D);omega
  have hex:∀ i,i<len->∃ cs',w.cells? base (a.add (i*k)) k=some cs'/\DataW.trod enc P w base spare held n e cs'=some (D i,Pl i):=λi hi'=>by
   have:=hi i (by omega)
   rwa [hC] at this
  obtain ⟨C,hCC⟩:=choose_lt (α:=List Value) (p:=λi cs'=>w.cells? base (a.add (i*k)) k=some cs'/\DataW.trod enc P w base spare held n e cs'=some (D i,Pl i)) hex;have hlen:∀ i,i<len->(C i).length=k:=λi hi'=>(World.cells?_some (hCC i hi').1).2.1
  have hcell:∀ i,i<len->∀ j,j<k->w.cell? (a.add (i*k+j))=(C i)[j]?:=λi hi' j hj=>by
   have:=(World.cells?_some (hCC i hi').1).2.2 j hj
   rwa [Go.Deep.add_add] at this
  have hfl:∀ m',m'<=len->(((List.range m').map C).flatten).length=m'*k:=by
   intro m' hm';induction m' with
   |zero=>simp
   |succ m' ih =>
    rw [List.range_succ,List.map_append,List.flatten_append,x12q,ih (by omega)]
    simp [hlen m' (by omega),Nat.add_mul]
  have hget:∀ m',m'<=len->∀ i j,i<m'->j<k->(((List.range m').map C).flatten)[i*k+j]?=(C i)[j]?:=by
   intro m' hm';induction m' with
   |zero=>intro i j hi';omega
   |succ m' ih =>
    intro i j hi' hj;rw [List.range_succ,List.map_append,List.flatten_append];rcases y30q i m' with h'|h'
    ·rw [y42q (by
      rw [hfl m' (by omega)]
      have:(i+1)*k<=m'*k:=y18q k h';rw [Nat.add_mul] at this;omega)]
     exact ih (by omega) i j h' hj
    ·have:i=m':=by omega
     subst this;rw [y39q (by rw [hfl i (by omega)];omega),hfl i (by omega)]
     simp
  refine ⟨some a,len,cap,(List.range len).map C,(List.range len).map D,hcs,⟨by rw [hfl len (Nat.le_refl _)],hl,hm,?_,?_⟩,by simp,by simp,hsum,?_⟩
  ·intro u hu
   obtain ⟨cs,hcs',hu'⟩:=List.mem_flatten.1 hu;obtain ⟨i,hi',rfl⟩:=List.mem_map.1 hcs';exact hone n _ _ (hDb i (by simpa using hi')) (hCC i (by simpa using hi')).2 u hu'
  ·intro hpos
   have hl0:0<len:=Nat.pos_of_mul_pos_right hpos;have h00:=hcell 0 hl0 0 hk
   have hc0:(C 0)[0]?=some ((C 0)[0]'(by rw [hlen 0 hl0];exact hk)):=y1q _
   rw [hc0] at h00;have hadd:(a.add (0*k+0))=a:=by simp [Addr.add]
   rw [hadd] at h00;obtain ⟨b,off,spot⟩:=a;have hsp:spot=none:=by
    cases spot with
    |none=>rfl
    |some s =>unfold World.cell? at h00;split at h00 <;> simp at h00
   subst hsp;refine ⟨b,off,rfl,?_,?_⟩
   ·rcases y30q b w.heap.size with hlt|hge
    ·exact hlt
    ·unfold World.cell? at h00
     rw [Array.getElem?_eq_none hge] at h00;cases h00
   ·intro j u hu
    have hjl:j<len*k:=by
     rw [←hfl len (Nat.le_refl _)];rcases y30q j ((List.range len).map C).flatten.length with h'|h'
     ·exact h'
     ·rw [y40q h'] at hu;cases hu
    have hdm:j / k*k+j % k=j:=by rw [Nat.mul_comm];exact Nat.div_add_mod j k
    have hdl:j / k<len:=(Nat.div_lt_iff_lt_mul hk).2 hjl;have h1:=hcell (j / k) hdl (j % k) (Nat.mod_lt _ hk)
    have h2:=hget len (Nat.le_refl _) (j / k) (j % k) hdl (Nat.mod_lt _ hk);rw [hdm] at h1 h2;rw [h2] at hu;rw [hu] at h1;rw [←h1];unfold Addr.add;split
    ·rename_i h0;subst h0;rfl
    ·rfl
  ·intro i cs d h1 h2
   have hi':i<len:=by have:=(y2q.1 h1).1;simpa using this
   rw [x14q,List.getElem?_range hi'] at h1 h2;simp only [x18q,y19q] at h1 h2;subst h1 h2;exact ⟨hlen i hi',n,_,(hCC i hi').2⟩
end
def All2 {α β:Type} (R:α->β->Prop):List α->List β->Prop
 |[],[]=>True
 |a::l,b::m=>R a b/\All2 R l m
 |_,_=>False
theorem q1f {α β:Type} {R:α->β->Prop}:∀ {l:List α} {m:List β},l.length=m.length->(∀ (i:Nat) a b,l[i]?=some a->m[i]?=some b->R a b)->All2 R l m
 |[],[],_,_=>trivial
 |a::l,b::m,h,hR=>⟨hR 0 a b rfl rfl,q1f (by simpa using h) λi x y hx hy=>hR (i+1) x y hx hy⟩
 |[],_::_,h,_=>by cases h
 |_::_,[],h,_=>by cases h
theorem q11a {H:Type} {enc:TypeId×Value->H} {w:World} {t e:TypeId} {k fuel:Nat} {v:Value} {x:DataW H×List MemPlace} {τ:Type} (E:EC τ) (R:τ->DataW H->Prop) (ht:Tryz.prog.underlying t=some (.slice e)) (hC:Tryz.prog.cellsOf e=k) (hk:0<k)
  (h:DataW.trod enc Tryz.prog w 0 (λ_=>true) true fuel t [v]=some x)
  (hE:∀ fuel cs y,Rows.uptoBulk y.1<Rows.uptoBulk x.1->DataW.trod enc Tryz.prog w 0 (λ_=>true) true fuel e cs=some y->∃ a:τ,RepL (Zw w) cs (E.enc a)/\R a y.1) :
  ∃ (l:List τ) (ds:List (DataW H)),RepC (Zw w) v (.sl (E.encL l))/\Rows.uptoBulkAll ds+1<=Rows.uptoBulk x.1/\All2 R l ds:=by
 obtain ⟨A,n,c,css,ds,hv,hr,hn,hn',hsum,hcs⟩:=qwi ht hC hk h (λfuel cs y hb hy u hu=>by
  obtain ⟨a,ha,_⟩:=hE fuel cs y hb hy;obtain ⟨i,hi,rfl⟩:=List.getElem_of_mem hu;have hx:i<(E.enc a).length:=by rw [←ha.len];exact hi
  exact (ha.get i _ _ (y1q hi) (y1q hx)).one)
 subst hv
 haveI:Inhabited τ:=⟨E.dec []⟩
 have hall:∀ i,i<css.length->∃ a:τ,(∀ cs,css[i]?=some cs->RepL (Zw w) cs (E.enc a))/\(∀ d,ds[i]?=some d->R a d):=λi hi=>by
  have hi':i<ds.length:=by omega
  obtain ⟨_,fuel,pl,hy⟩:=hcs i _ _ (y1q hi) (y1q hi');have hb:=q8n (y24q hi')
  obtain ⟨a,ha,hra⟩:=hE fuel _ _ (by show Rows.uptoBulk ds[i]<_;omega) hy
  exact ⟨a,λcs h=>by rw [y1q hi] at h;injection h with h;subst h;exact ha,λd h=>by rw [y1q hi'] at h;injection h with h;subst h;exact hra⟩
 obtain ⟨F,hF⟩:=choose_lt (α:=τ) (n:=css.length) hall;refine ⟨(List.range css.length).map F,ds,rd_rep hr hn (quv ht h) hk (λcs hc=>by
  obtain ⟨i,hi,rfl⟩:=List.getElem_of_mem hc;exact (hcs i _ _ (y1q hi) (y1q (show i<ds.length by omega))).1) (by simp [EC.encL]) ?_,hsum,q1f (by simp;omega) ?_⟩
 ·intro i cs e h1 h2
  have hi:i<css.length:=(y2q.1 h1).1;rw [EC.encL,x14q,x14q,List.getElem?_range hi] at h2;simp only [x18q,y19q] at h2;subst h2;exact (hF i hi).1 cs h1
 ·intro i a d h1 h2
  have hi:i<css.length:=by have:=(y2q.1 h1).1;simpa using this
  rw [x14q,List.getElem?_range hi] at h1;simp only [x18q,y19q] at h1;subst h1;exact (hF i hi).2 d h2
end Go.Proofs.YtmlcmoaonaomfaaGreatDoor
namespace Go.Proofs.YtmlcmoaonaomfaaGreatDoor
open Go.ChangeShapes Go.WideShapes Go.ChangeAt Go.RowKit Go.Deep
theorem lsix {α:Type} {l:List α} (h:l.length=6):∃ a b c d e f,l=[a,b,c,d,e,f]:=by
 match l,h with
 |[a,b,c,d,e,f],_=>exact ⟨a,b,c,d,e,f,rfl⟩
theorem leight {α:Type} {l:List α} (h:l.length=8):∃ a b c d e f g i,l=[a,b,c,d,e,f,g,i]:=by
 match l,h with
 |[a,b,c,d,e,f,g,i],_=>exact ⟨a,b,c,d,e,f,g,i,rfl⟩
theorem lthirteen {α:Type} {l:List α} (h:l.length=13):∃ a b c d e f g i j k m n o,l=[a,b,c,d,e,f,g,i,j,k,m,n,o]:=by
 match l,h with
 |[a,b,c,d,e,f,g,i,j,k,m,n,o],_=>exact ⟨a,b,c,d,e,f,g,i,j,k,m,n,o,rfl⟩
theorem ltwo {α:Type} {l:List α} (h:l.length=2):∃ a b,l=[a,b]:=by
 match l,h with
 |[a,b],_=>exact ⟨a,b,rfl⟩
theorem lthree {α:Type} {l:List α} (h:l.length=3):∃ a b c,l=[a,b,c]:=by
 match l,h with
 |[a,b,c],_=>exact ⟨a,b,c,rfl⟩
theorem lfive {α:Type} {l:List α} (h:l.length=5):∃ a b c d e,l=[a,b,c,d,e]:=by
 match l,h with
 |[a,b,c,d,e],_=>exact ⟨a,b,c,d,e,rfl⟩
section
variable {H:Type} {enc:TypeId×Value->H} {w:World}
def RT (a:S35) (d:DataW H):Prop:=tzT a<=Rows.uptoBulk d/\okT a
theorem all2_T:∀ {l:List S35} {ds:List (DataW H)},All2 RT l ds->tzL l<=Rows.uptoBulkAll ds/\okTL l/\l.length=ds.length
 |[],[],_=>⟨Nat.zero_le _,trivial,rfl⟩
 |a::l,d::ds,h=>by
  obtain ⟨h1,h2,h3⟩:=all2_T h.2;refine ⟨?_,⟨h.1.2,h2⟩,by simp [h3]⟩
  have:=h.1.1;simp only [tzL,Rows.uptoBulkAll];omega
 |[],_::_,h=>h.elim
 |_::_,[],h=>h.elim
set_option maxRecDepth 100000 in
theorem open_T:∀ (B fuel:Nat) (cs:List Value) (y:DataW H×List MemPlace),Rows.uptoBulk y.1=B->B<=2000000->DataW.trod enc Tryz.prog w 0 (λ_=>true) true fuel 35 cs=some y->∃ a:S35,RepL (Zw w) cs (qbp.enc a)/\RT a y.1:=by
 intro B;induction B using Nat.strongRecOn with
 |_ B ih =>
  intro fuel cs y hB hb hy;obtain ⟨xs,n,_,hx,hl,hxl,hf⟩:=DataW.trod_struct Tryz.underlying35 hy;have hc:Tryz.prog.cellsOf 35=6:=by kernel_rfl
  have c1:Tryz.prog.cellsOf 3=1:=by kernel_rfl
  have c2:Tryz.prog.cellsOf 9=1:=by kernel_rfl
  have c3:Tryz.prog.cellsOf 33=1:=by kernel_rfl
  rw [hc] at hl;obtain ⟨u0,u1,u2,u3,u4,u5,rfl⟩:=lsix hl;obtain ⟨x0,x1,x2,x3,x4,x5,rfl⟩:=lsix hxl;have h0:DataW.trod enc Tryz.prog w 0 (λ_=>true) true n 3 [u0]=some x0:=by have:=hf 0 _ rfl;simpa [c1] using this
  have h1:DataW.trod enc Tryz.prog w 0 (λ_=>true) true n 33 [u1]=some x1:=by have:=hf 1 _ rfl;simpa [c3] using this
  have h2:DataW.trod enc Tryz.prog w 0 (λ_=>true) true n 9 [u2]=some x2:=by have:=hf 2 _ rfl;simpa [c2] using this
  have h3:DataW.trod enc Tryz.prog w 0 (λ_=>true) true n 3 [u3]=some x3:=by have:=hf 3 _ rfl;simpa [c1] using this
  have h4:DataW.trod enc Tryz.prog w 0 (λ_=>true) true n 9 [u4]=some x4:=by have:=hf 4 _ rfl;simpa [c2] using this
  have h5:DataW.trod enc Tryz.prog w 0 (λ_=>true) true n 3 [u5]=some x5:=by have:=hf 5 _ rfl;simpa [c1] using this
  obtain ⟨a0,e0,_,_⟩:=DataW.trod_int Tryz.underlying3 h0;obtain ⟨a2,e2,_,_⟩:=DataW.trod_string Tryz.underlying9 h2;obtain ⟨a3,e3,_,_⟩:=DataW.trod_int Tryz.underlying3 h3;obtain ⟨a4,e4,_,_⟩:=DataW.trod_string Tryz.underlying9 h4;obtain ⟨a5,e5,_,_⟩:=DataW.trod_int Tryz.underlying3 h5;injection e0 with e0;injection e2 with e2;injection e3 with e3;injection e4 with e4;injection e5 with e5
  subst e0 e2 e3 e4 e5;have hbulk:Rows.uptoBulk x1.1<B:=by rw [←hB,hx];simp only [Rows.uptoBulk,y20q,Rows.uptoBulkAll];omega
  obtain ⟨l,ds,rc,hsum,h2'⟩:=q11a (k:=6) qbp RT Tryz.underlying33 (by kernel_rfl) (by decide) h1 (λfuel cs y hlt hy=>ih _ (by omega) fuel cs y rfl (by omega) hy)
  obtain ⟨g1,g2,g3⟩:=all2_T h2';refine ⟨⟨a0,l,a2,a3,a4,a5⟩,?_,?_,?_⟩
  ·rw [qcl]
   exact ⟨.int _ _,rc,.str _,.int _ _,.str _,.int _ _,trivial⟩
  ·rw [tzT_eq,hB]
   show 1+tzL l<=B;omega
  ·have:=q8m ds
   exact (okT_eq _).2 ⟨by show l.length<=big;unfold big;omega,g2⟩
def RR (a:S38) (d:DataW H):Prop:=tsz a<=Rows.uptoBulk d/\okR a
theorem all2_R:∀ {l:List S38} {ds:List (DataW H)},All2 RR l ds->tszL l<=Rows.uptoBulkAll ds/\okL l/\l.length=ds.length
 |[],[],_=>⟨Nat.zero_le _,trivial,rfl⟩
 |a::l,d::ds,h=>by
  obtain ⟨h1,h2,h3⟩:=all2_R h.2;refine ⟨?_,⟨h.1.2,h2⟩,by simp [h3]⟩
  have:=h.1.1;simp only [tszL,Rows.uptoBulkAll];omega
 |[],_::_,h=>h.elim
 |_::_,[],h=>h.elim
set_option maxRecDepth 100000 in
theorem open_R:∀ (B fuel:Nat) (cs:List Value) (y:DataW H×List MemPlace),Rows.uptoBulk y.1=B->B<=2000000->DataW.trod enc Tryz.prog w 0 (λ_=>true) true fuel 38 cs=some y->∃ a:S38,RepL (Zw w) cs (qbr.enc a)/\RR a y.1:=by
 intro B;induction B using Nat.strongRecOn with
 |_ B ih =>
  intro fuel cs y hB hb hy;obtain ⟨xs,n,_,hx,hl,hxl,hf⟩:=DataW.trod_struct Tryz.underlying38 hy;have hc:Tryz.prog.cellsOf 38=13:=by kernel_rfl
  have c1:Tryz.prog.cellsOf 3=1:=by kernel_rfl
  have c2:Tryz.prog.cellsOf 9=1:=by kernel_rfl
  have c3:Tryz.prog.cellsOf 36=1:=by kernel_rfl
  have c4:Tryz.prog.cellsOf 35=6:=by kernel_rfl
  rw [hc] at hl;obtain ⟨u0,u1,u2,u3,u4,u5,u6,u7,u8,u9,u10,u11,u12,rfl⟩:=lthirteen hl;obtain ⟨x0,x1,x2,x3,x4,x5,x6,x7,rfl⟩:=leight hxl;have h0:DataW.trod enc Tryz.prog w 0 (λ_=>true) true n 3 [u0]=some x0:=by have:=hf 0 _ rfl;simpa [c1] using this
  have h1:DataW.trod enc Tryz.prog w 0 (λ_=>true) true n 35 [u1,u2,u3,u4,u5,u6]=some x1:=by have:=hf 1 _ rfl;simpa [c4] using this
  have h2:DataW.trod enc Tryz.prog w 0 (λ_=>true) true n 36 [u7]=some x2:=by have:=hf 2 _ rfl;simpa [c3] using this
  have h3:DataW.trod enc Tryz.prog w 0 (λ_=>true) true n 36 [u8]=some x3:=by have:=hf 3 _ rfl;simpa [c3] using this
  have h4:DataW.trod enc Tryz.prog w 0 (λ_=>true) true n 3 [u9]=some x4:=by have:=hf 4 _ rfl;simpa [c1] using this
  have h5:DataW.trod enc Tryz.prog w 0 (λ_=>true) true n 9 [u10]=some x5:=by have:=hf 5 _ rfl;simpa [c2] using this
  have h6:DataW.trod enc Tryz.prog w 0 (λ_=>true) true n 9 [u11]=some x6:=by have:=hf 6 _ rfl;simpa [c2] using this
  have h7:DataW.trod enc Tryz.prog w 0 (λ_=>true) true n 3 [u12]=some x7:=by have:=hf 7 _ rfl;simpa [c1] using this
  obtain ⟨a0,e0,_,_⟩:=DataW.trod_int Tryz.underlying3 h0;obtain ⟨a4,e4,_,_⟩:=DataW.trod_int Tryz.underlying3 h4;obtain ⟨a5,e5,z5,_⟩:=DataW.trod_string Tryz.underlying9 h5;obtain ⟨a6,e6,_,_⟩:=DataW.trod_string Tryz.underlying9 h6;obtain ⟨a7,e7,_,_⟩:=DataW.trod_int Tryz.underlying3 h7;injection e0 with e0;injection e4 with e4;injection e5 with e5;injection e6 with e6;injection e7 with e7
  subst e0 e4 e5 e6 e7;have hall:Rows.uptoBulk x1.1+Rows.uptoBulk x2.1+Rows.uptoBulk x3.1+Rows.uptoBulk x5.1<B:=by rw [←hB,hx];simp only [Rows.uptoBulk,y20q,Rows.uptoBulkAll];omega
  have h5b:a5.size<B:=by
   have:Rows.uptoBulk x5.1=a5.data.toList.length+1:=by rw [z5];simp only [Rows.uptoBulk]
   rw [x24q] at this;have e:a5.data.size=a5.size:=rfl
   omega
  obtain ⟨t,rt,ht1,ht2⟩:=open_T _ n _ x1 rfl (by omega) h1
  obtain ⟨l,ds,rc,hsum,h2'⟩:=q11a (k:=13) qbr RR Tryz.underlying36 (by kernel_rfl) (by decide) h2 (λfuel cs y hlt hy=>ih _ (by omega) fuel cs y rfl (by omega) hy)
  obtain ⟨g1,g2,g3⟩:=all2_R h2';obtain ⟨l',ds',rc',hsum',h3'⟩:=q11a (k:=13) qbr RR Tryz.underlying36 (by kernel_rfl) (by decide) h3 (λfuel cs y hlt hy=>ih _ (by omega) fuel cs y rfl (by omega) hy)
  obtain ⟨g1',g2',g3'⟩:=all2_R h3';have hlen:=q8m ds
  have hlen':=q8m ds';rw [qcl] at rt;obtain ⟨r1,r2,r3,r4,r5,r6,_⟩:=rt;obtain ⟨o1,o2⟩:=(okT_eq t).1 ht2;refine ⟨⟨a0,t.Kind,t.Tests,t.Name,t.Pattern,t.Text,t.N,l,l',a4,a5,a6,a7⟩,?_,?_,?_⟩
  ·rw [qcm]
   exact ⟨.int _ _,r1,r2,r3,r4,r5,r6,rc,rc',.int _ _,.str _,.str _,.int _ _,trivial⟩
  ·rw [tsz_eq,hB]
   show tzT ⟨t.Kind,t.Tests,t.Name,t.Pattern,t.Text,t.N⟩+tszL l+tszL l'<=B;rw [eta_T];omega
  ·refine (okR_eq _).2 ⟨⟨o1,o2⟩,⟨?_,g2⟩,⟨?_,g2'⟩,?_⟩
   ·show l.length<=big;unfold big;omega
   ·show l'.length<=big;unfold big;omega
   ·show a5.size<=big;unfold big;omega
set_option maxRecDepth 100000 in
theorem qwj {d:DataW H} {p:List MemPlace} {v:Value} (hv:∃ a n c,v=.slice a n c) (hb:Rows.uptoBulk d<=1048576) (h:DataW.Trod enc Tryz.prog w 0 (λ_=>true) true 36 v d p) :
  ∃ l:List S38,RepC (Zw w) v (.sl (qbr.encL l))/\okL l/\l.length<=1048576/\tszL l<=1048576:=by
 obtain ⟨a,n,c,rfl⟩:=hv;obtain ⟨fuel,hf⟩:=h;obtain ⟨l,ds,rc,hsum,h2'⟩:=q11a (k:=13) qbr RR Tryz.underlying36 (by kernel_rfl) (by decide) hf (λfuel cs y hlt hy=>open_R _ fuel cs y rfl (by simp only at hlt;omega) hy)
 obtain ⟨g1,g2,g3⟩:=all2_R h2';have hlen:=q8m ds
 simp only at hsum;exact ⟨l,rc,g2,by omega,by omega⟩
theorem q1cz {a:BA} {x:DataW H×List MemPlace} {q:List MemPlace} (h:x=(.lit (.string a.data.toList),q)):a.size+1=Rows.uptoBulk x.1:=by subst h;simp only [Rows.uptoBulk,x24q];rfl
theorem qwh {fuel:Nat} {cs:List Value} {y:DataW H×List MemPlace} (hb:Rows.uptoBulk y.1<=2000000) (h:DataW.trod enc Tryz.prog w 0 (λ_=>true) true fuel 73 cs=some y) :
  ∃ a:S73,RepL (Zw w) cs (qbw.enc a)/\a.Address.size<=2000000:=by
 obtain ⟨xs,n,_,hx,hl,hxl,hf⟩:=DataW.trod_struct Tryz.underlying73 h;have hc:Tryz.prog.cellsOf 73=2:=by kernel_rfl
 have c1:Tryz.prog.cellsOf 3=1:=by kernel_rfl
 have c2:Tryz.prog.cellsOf 9=1:=by kernel_rfl
 rw [hc] at hl;obtain ⟨u0,u1,rfl⟩:=ltwo hl;obtain ⟨x0,x1,rfl⟩:=ltwo hxl;have h0:DataW.trod enc Tryz.prog w 0 (λ_=>true) true n 9 [u0]=some x0:=by have:=hf 0 _ rfl;simpa [c2] using this
 have h1:DataW.trod enc Tryz.prog w 0 (λ_=>true) true n 3 [u1]=some x1:=by have:=hf 1 _ rfl;simpa [c1] using this
 obtain ⟨a0,e0,z0,_⟩:=DataW.trod_string Tryz.underlying9 h0;obtain ⟨a1,e1,_,_⟩:=DataW.trod_int Tryz.underlying3 h1;injection e0 with e0;injection e1 with e1
 subst e0 e1;have hs:=q1cz z0
 have hbulk:Rows.uptoBulk x0.1<=2000000:=by rw [hx] at hb;simp only [Rows.uptoBulk,y20q,Rows.uptoBulkAll] at hb;omega
 refine ⟨⟨a0,a1⟩,?_,?_⟩
 ·rw [enc_73]
  exact ⟨.str _,.int _ _,trivial⟩
 ·show a0.size<=2000000
  omega
theorem qwf {fuel:Nat} {cs:List Value} {y:DataW H×List MemPlace} (h:DataW.trod enc Tryz.prog w 0 (λ_=>true) true fuel 71 cs=some y) :
  ∃ a:S71,RepL (Zw w) cs (qbv.enc a)/\True:=by
 obtain ⟨xs,n,_,hx,hl,hxl,hf⟩:=DataW.trod_struct Tryz.underlying71 h;have hc:Tryz.prog.cellsOf 71=2:=by kernel_rfl
 have c2:Tryz.prog.cellsOf 9=1:=by kernel_rfl
 rw [hc] at hl;obtain ⟨u0,u1,rfl⟩:=ltwo hl;obtain ⟨x0,x1,rfl⟩:=ltwo hxl;have h0:DataW.trod enc Tryz.prog w 0 (λ_=>true) true n 9 [u0]=some x0:=by have:=hf 0 _ rfl;simpa [c2] using this
 have h1:DataW.trod enc Tryz.prog w 0 (λ_=>true) true n 9 [u1]=some x1:=by have:=hf 1 _ rfl;simpa [c2] using this
 obtain ⟨a0,e0,z0,_⟩:=DataW.trod_string Tryz.underlying9 h0;obtain ⟨a1,e1,_,_⟩:=DataW.trod_string Tryz.underlying9 h1;injection e0 with e0;injection e1 with e1
 subst e0 e1;refine ⟨⟨a0,a1⟩,?_,trivial⟩;rw [enc_71];exact ⟨.str _,.str _,trivial⟩
theorem qwe {fuel:Nat} {cs:List Value} {y:DataW H×List MemPlace} (h:DataW.trod enc Tryz.prog w 0 (λ_=>true) true fuel 5 cs=some y) :
  ∃ a:Int,RepL (Zw w) cs (qbt.enc a)/\True:=by
 obtain ⟨a0,e0,_,_⟩:=DataW.trod_int Tryz.underlying5 h;subst e0;exact ⟨a0,⟨.int _ _,trivial⟩,trivial⟩
theorem q1g {R:S73->Prop}:∀ {l:List S73} {ds:List (DataW H)},All2 (λa _=>R a) l ds->(∀ x∈l,R x)/\l.length=ds.length
 |[],[],_=>⟨by simp,rfl⟩
 |a::l,d::ds,h=>by obtain ⟨h1,h2⟩:=q1g h.2;exact ⟨λx hx=>by rcases y32q.1 hx with rfl|hx;exact h.1;exact h1 x hx,by simp [h2]⟩
 |[],_::_,h=>h.elim
 |_::_,[],h=>h.elim
theorem q1e {α β:Type} {R:α->β->Prop}:∀ {l:List α} {m:List β},All2 R l m->l.length=m.length
 |[],[],_=>rfl
 |_::l,_::m,h=>by simp [q1e h.2]
 |[],_::_,h=>h.elim
 |_::_,[],h=>h.elim
structure LOk (f:BA) (rc:List S73) (bd:List Int):Prop where
 fr:f.size<=2000000
 rl:rc.length<=2000000
 ad:∀ x∈rc,x.Address.size<=2000000
 bl:bd.length<=2000000
set_option maxRecDepth 100000 in
theorem qwg {d:DataW H} {p:List MemPlace} {v:Value} (hv:∃ cs:Array Value,v=.agg cs/\cs.size=Tryz.prog.cellsOf 30) (hb:Rows.uptoBulk d<=1048576) (h:DataW.Trod enc Tryz.prog w 0 (λ_=>true) true 30 v d p) :
  ∃ (f:BA) (rc:List S73) (e:BA) (fs:List S71) (bd:List Int),Rep (Zw w) (λ_ _=>none) noM v (.agg [.c (.str f),.c (.sl (qbw.encL rc)),.c (.str e),.c (.sl (qbv.encL fs)),.c (.sl (qbt.encL bd))])/\LOk f rc bd/\fs.length<=1048576/\e.size<=1048576:=by
 obtain ⟨cs,rfl,hsz⟩:=hv;obtain ⟨fuel,h⟩:=h;obtain ⟨xs,n,_,hx,hl,hxl,hf⟩:=DataW.trod_struct Tryz.underlying30 h;have hc:Tryz.prog.cellsOf 30=5:=by kernel_rfl
 have c1:Tryz.prog.cellsOf 24=3:=by kernel_rfl
 have c2:Tryz.prog.cellsOf 28=2:=by kernel_rfl
 have c3:Tryz.prog.cellsOf 9=1:=by kernel_rfl
 have c4:Tryz.prog.cellsOf 22=1:=by kernel_rfl
 have c5:Tryz.prog.cellsOf 25=1:=by kernel_rfl
 have c6:Tryz.prog.cellsOf 26=1:=by kernel_rfl
 rw [hc] at hl;obtain ⟨l⟩:=cs;obtain ⟨u0,u1,u2,u3,u4,rfl⟩:=lfive hl;obtain ⟨x0,x1,rfl⟩:=ltwo hxl;have h0:DataW.trod enc Tryz.prog w 0 (λ_=>true) true n 24 [u0,u1,u2]=some x0:=by have:=hf 0 _ rfl;simpa [Value.cells,c1] using this
 have h1:DataW.trod enc Tryz.prog w 0 (λ_=>true) true n 28 [u3,u4]=some x1:=by have:=hf 1 _ rfl;simpa [Value.cells,c2] using this
 obtain ⟨ys,n1,_,hy,hyl,hyn,hg⟩:=DataW.trod_struct Tryz.underlying24 h0;obtain ⟨zs,n2,_,hz,hzl,hzn,hk⟩:=DataW.trod_struct Tryz.underlying28 h1;obtain ⟨y0,y1,y2,rfl⟩:=lthree hyn;obtain ⟨z0,z1,rfl⟩:=ltwo hzn;have g0:DataW.trod enc Tryz.prog w 0 (λ_=>true) true n1 9 [u0]=some y0:=by have:=hg 0 _ rfl;simpa [c3] using this
 have g1:DataW.trod enc Tryz.prog w 0 (λ_=>true) true n1 22 [u1]=some y1:=by have:=hg 1 _ rfl;simpa [c4] using this
 have g2:DataW.trod enc Tryz.prog w 0 (λ_=>true) true n1 9 [u2]=some y2:=by have:=hg 2 _ rfl;simpa [c3] using this
 have k0:DataW.trod enc Tryz.prog w 0 (λ_=>true) true n2 25 [u3]=some z0:=by have:=hk 0 _ rfl;simpa [c5] using this
 have k1:DataW.trod enc Tryz.prog w 0 (λ_=>true) true n2 26 [u4]=some z1:=by have:=hk 1 _ rfl;simpa [c6] using this
 obtain ⟨a0,e0,b0,_⟩:=DataW.trod_string Tryz.underlying9 g0;obtain ⟨a2,e2,b2,_⟩:=DataW.trod_string Tryz.underlying9 g2;injection e0 with e0;injection e2 with e2
 subst e0 e2;have hs0:=q1cz b0
 have hs2:=q1cz b2;have hall:Rows.uptoBulk y0.1+Rows.uptoBulk y1.1+Rows.uptoBulk y2.1+Rows.uptoBulk z0.1+Rows.uptoBulk z1.1<=1048576:=by have ed:=congrArg Prod.fst hx;simp only [y20q,List.map_nil] at ed;rw [ed,hy,hz] at hb;simp only [Rows.uptoBulk,y20q,List.map_nil,Rows.uptoBulkAll] at hb;omega
 obtain ⟨rc,ds,r1,hsum,q1⟩:=q11a (k:=2) qbw (λa _=>a.Address.size<=2000000) Tryz.underlying22 (by kernel_rfl) (by decide) g1 (λfuel cs y hlt hy=>qwh (by omega) hy)
 obtain ⟨fs,ds',r3,hsum',q3⟩:=q11a (k:=2) qbv (λ_ _=>True) Tryz.underlying25 (by kernel_rfl) (by decide) k0 (λfuel cs y hlt hy=>qwf hy)
 obtain ⟨bd,ds2,r4,hsum2,q4⟩:=q11a (k:=1) qbt (λ_ _=>True) Tryz.underlying26 (by kernel_rfl) (by decide) k1 (λfuel cs y hlt hy=>qwe hy)
 obtain ⟨q5,q6⟩:=q1g q1;have q7:=q1e q3
 have q8:=q1e q4;have w1:=q8m ds
 have w2:=q8m ds';have w3:=q8m ds2
 refine ⟨a0,rc,a2,fs,bd,RepL.agg (us:=[.string a0,u1,.string a2,u3,u4]) (xs:=[.str a0,.sl (qbw.encL rc),.str a2,.sl (qbv.encL fs),.sl (qbt.encL bd)]) ⟨.str _,r1,.str _,r3,r4,trivial⟩,⟨by omega,by omega,q5,by omega⟩,by omega,by omega⟩
end
end Go.Proofs.YtmlcmoaonaomfaaGreatDoor
namespace Go.Proofs.YtmlcmoaonaomfaaGreatDoor
open Go.Shelf
set_option maxRecDepth 100000
def qrb:Go.Shelf.Ren:=⟨λ|144=>163|143=>192|219=>167|217=>71|225=>195|224=>189|267=>196|266=>109|314=>213|n=>n,λ|9=>9|4=>4|3=>3|5=>5|46=>145|146=>174|51=>173|n=>n,λ|1=>0|n=>n⟩
theorem lays144:Go.Proofs.Lays.n144 Tryz.prog qrb:={
 mixed:=by kernel_rfl
 f143:=Tryz.func192.trans (congrArg some (by kernel_rfl))
 f144:=Tryz.func163.trans (congrArg some (by kernel_rfl))
 f217:=Tryz.func71.trans (congrArg some (by kernel_rfl))
 f219:=Tryz.func167.trans (congrArg some (by kernel_rfl))
 f224:=Tryz.func189.trans (congrArg some (by kernel_rfl))
 f225:=Tryz.func195.trans (congrArg some (by kernel_rfl))
 f266:=Tryz.func109.trans (congrArg some (by kernel_rfl))
 f267:=Tryz.func196.trans (congrArg some (by kernel_rfl))
 f314:=Tryz.func213.trans (congrArg some (by kernel_rfl))
 t3:=Tryz.underlying3
 a3:=Tryz.isAgg3
 z3:=Tryz.sizeOf3
 v3:=Tryz.zeroValue3
 t4:=Tryz.underlying4
 a4:=Tryz.isAgg4
 z4:=Tryz.sizeOf4
 v4:=Tryz.zeroValue4
 t5:=Tryz.underlying5
 a5:=Tryz.isAgg5
 z5:=Tryz.sizeOf5
 v5:=Tryz.zeroValue5
 t9:=Tryz.underlying9
 a9:=Tryz.isAgg9
 z9:=Tryz.sizeOf9
 v9:=Tryz.zeroValue9
 t46:=Tryz.underlying145
 a46:=Tryz.isAgg145
 z46:=Tryz.sizeOf145
 v46:=Tryz.zeroValue145
 t51:=Tryz.underlying173
 a51:=Tryz.isAgg173
 z51:=Tryz.sizeOf173
 v51:=Tryz.zeroValue173
 t146:=Tryz.underlying174
 a146:=Tryz.isAgg174
 z146:=Tryz.sizeOf174
 v146:=Tryz.zeroValue174
 g1:=by kernel_rfl }
def qrc:Go.Shelf.Ren:=⟨λ|145=>125|220=>147|219=>167|217=>71|225=>195|224=>189|267=>196|266=>109|314=>213|n=>n,λ|9=>9|4=>4|59=>166|3=>3|5=>5|46=>145|146=>174|51=>173|n=>n,λ|1=>0|n=>n⟩
theorem lays145:Go.Proofs.Lays.n145 Tryz.prog qrc:={
 mixed:=by kernel_rfl
 f145:=Tryz.func125.trans (congrArg some (by kernel_rfl))
 f217:=Tryz.func71.trans (congrArg some (by kernel_rfl))
 f219:=Tryz.func167.trans (congrArg some (by kernel_rfl))
 f220:=Tryz.func147.trans (congrArg some (by kernel_rfl))
 f224:=Tryz.func189.trans (congrArg some (by kernel_rfl))
 f225:=Tryz.func195.trans (congrArg some (by kernel_rfl))
 f266:=Tryz.func109.trans (congrArg some (by kernel_rfl))
 f267:=Tryz.func196.trans (congrArg some (by kernel_rfl))
 f314:=Tryz.func213.trans (congrArg some (by kernel_rfl))
 t3:=Tryz.underlying3
 a3:=Tryz.isAgg3
 z3:=Tryz.sizeOf3
 v3:=Tryz.zeroValue3
 t4:=Tryz.underlying4
 a4:=Tryz.isAgg4
 z4:=Tryz.sizeOf4
 v4:=Tryz.zeroValue4
 t5:=Tryz.underlying5
 a5:=Tryz.isAgg5
 z5:=Tryz.sizeOf5
 v5:=Tryz.zeroValue5
 t9:=Tryz.underlying9
 a9:=Tryz.isAgg9
 z9:=Tryz.sizeOf9
 v9:=Tryz.zeroValue9
 t46:=Tryz.underlying145
 a46:=Tryz.isAgg145
 z46:=Tryz.sizeOf145
 v46:=Tryz.zeroValue145
 t51:=Tryz.underlying173
 a51:=Tryz.isAgg173
 z51:=Tryz.sizeOf173
 v51:=Tryz.zeroValue173
 t59:=Tryz.underlying166
 a59:=Tryz.isAgg166
 z59:=Tryz.sizeOf166
 v59:=Tryz.zeroValue166
 t146:=Tryz.underlying174
 a146:=Tryz.isAgg174
 z146:=Tryz.sizeOf174
 v146:=Tryz.zeroValue174
 g1:=by kernel_rfl }
def qr9:Go.Shelf.Ren:=⟨λ|137=>38|217=>71|266=>109|n=>n,λ|9=>9|5=>5|3=>3|n=>n,λ|n=>n⟩
theorem lays137:Go.Proofs.Lays.n137 Tryz.prog qr9:={
 mixed:=by kernel_rfl
 f137:=Tryz.func38.trans (congrArg some (by kernel_rfl))
 f217:=Tryz.func71.trans (congrArg some (by kernel_rfl))
 f266:=Tryz.func109.trans (congrArg some (by kernel_rfl))
 t3:=Tryz.underlying3
 a3:=Tryz.isAgg3
 z3:=Tryz.sizeOf3
 v3:=Tryz.zeroValue3
 t5:=Tryz.underlying5
 a5:=Tryz.isAgg5
 z5:=Tryz.sizeOf5
 v5:=Tryz.zeroValue5
 t9:=Tryz.underlying9
 a9:=Tryz.isAgg9
 z9:=Tryz.sizeOf9
 v9:=Tryz.zeroValue9 }
def qr8:Go.Shelf.Ren:=⟨λ|119=>205|n=>n,λ|21=>21|4=>4|n=>n,λ|n=>n⟩
theorem lays119:Go.Proofs.Lays.n119 Tryz.prog qr8:={
 mixed:=by kernel_rfl
 f119:=Tryz.func205.trans (congrArg some (by kernel_rfl))
 t4:=Tryz.underlying4
 a4:=Tryz.isAgg4
 z4:=Tryz.sizeOf4
 v4:=Tryz.zeroValue4
 t21:=Tryz.underlying21
 a21:=Tryz.isAgg21
 z21:=Tryz.sizeOf21
 v21:=Tryz.zeroValue21 }
def qrd:Go.Shelf.Ren:=⟨λ|152=>179|137=>38|119=>205|224=>189|225=>195|217=>71|266=>109|n=>n,λ|9=>9|21=>21|3=>3|4=>4|5=>5|0=>0|46=>145|n=>n,λ|n=>n⟩
theorem lays152:Go.Proofs.Lays.n152 Tryz.prog qrd:={
 mixed:=by kernel_rfl
 f119:=Tryz.func205.trans (congrArg some (by kernel_rfl))
 f137:=Tryz.func38.trans (congrArg some (by kernel_rfl))
 f152:=Tryz.func179.trans (congrArg some (by kernel_rfl))
 f217:=Tryz.func71.trans (congrArg some (by kernel_rfl))
 f224:=Tryz.func189.trans (congrArg some (by kernel_rfl))
 f225:=Tryz.func195.trans (congrArg some (by kernel_rfl))
 f266:=Tryz.func109.trans (congrArg some (by kernel_rfl))
 t0:=Tryz.underlying0
 a0:=Tryz.isAgg0
 z0:=Tryz.sizeOf0
 v0:=Tryz.zeroValue0
 t3:=Tryz.underlying3
 a3:=Tryz.isAgg3
 z3:=Tryz.sizeOf3
 v3:=Tryz.zeroValue3
 t4:=Tryz.underlying4
 a4:=Tryz.isAgg4
 z4:=Tryz.sizeOf4
 v4:=Tryz.zeroValue4
 t5:=Tryz.underlying5
 a5:=Tryz.isAgg5
 z5:=Tryz.sizeOf5
 v5:=Tryz.zeroValue5
 t9:=Tryz.underlying9
 a9:=Tryz.isAgg9
 z9:=Tryz.sizeOf9
 v9:=Tryz.zeroValue9
 t21:=Tryz.underlying21
 a21:=Tryz.isAgg21
 z21:=Tryz.sizeOf21
 v21:=Tryz.zeroValue21
 t46:=Tryz.underlying145
 a46:=Tryz.isAgg145
 z46:=Tryz.sizeOf145
 v46:=Tryz.zeroValue145 }
def qre:Go.Shelf.Ren:=⟨λ|153=>155|152=>179|226=>180|227=>181|228=>182|137=>38|119=>205|224=>189|225=>195|217=>71|266=>109|n=>n,λ|9=>9|3=>3|4=>4|5=>5|21=>21|117=>250|116=>249|0=>0|46=>145|124=>275|n=>n,λ|n=>n⟩
theorem lays153:Go.Proofs.Lays.n153 Tryz.prog qre:={
 mixed:=by kernel_rfl
 f119:=Tryz.func205.trans (congrArg some (by kernel_rfl))
 f137:=Tryz.func38.trans (congrArg some (by kernel_rfl))
 f152:=Tryz.func179.trans (congrArg some (by kernel_rfl))
 f153:=Tryz.func155.trans (congrArg some (by kernel_rfl))
 f217:=Tryz.func71.trans (congrArg some (by kernel_rfl))
 f224:=Tryz.func189.trans (congrArg some (by kernel_rfl))
 f225:=Tryz.func195.trans (congrArg some (by kernel_rfl))
 f226:=Tryz.func180.trans (congrArg some (by kernel_rfl))
 f227:=Tryz.func181.trans (congrArg some (by kernel_rfl))
 f228:=Tryz.func182.trans (congrArg some (by kernel_rfl))
 f266:=Tryz.func109.trans (congrArg some (by kernel_rfl))
 t0:=Tryz.underlying0
 a0:=Tryz.isAgg0
 z0:=Tryz.sizeOf0
 v0:=Tryz.zeroValue0
 t3:=Tryz.underlying3
 a3:=Tryz.isAgg3
 z3:=Tryz.sizeOf3
 v3:=Tryz.zeroValue3
 t4:=Tryz.underlying4
 a4:=Tryz.isAgg4
 z4:=Tryz.sizeOf4
 v4:=Tryz.zeroValue4
 t5:=Tryz.underlying5
 a5:=Tryz.isAgg5
 z5:=Tryz.sizeOf5
 v5:=Tryz.zeroValue5
 t9:=Tryz.underlying9
 a9:=Tryz.isAgg9
 z9:=Tryz.sizeOf9
 v9:=Tryz.zeroValue9
 t21:=Tryz.underlying21
 a21:=Tryz.isAgg21
 z21:=Tryz.sizeOf21
 v21:=Tryz.zeroValue21
 t46:=Tryz.underlying145
 a46:=Tryz.isAgg145
 z46:=Tryz.sizeOf145
 v46:=Tryz.zeroValue145
 t116:=Tryz.underlying249
 a116:=Tryz.isAgg249
 z116:=Tryz.sizeOf249
 t117:=Tryz.underlying250
 a117:=Tryz.isAgg250
 z117:=Tryz.sizeOf250
 v117:=Tryz.zeroValue250
 t124:=Tryz.underlying275
 a124:=Tryz.isAgg275
 z124:=Tryz.sizeOf275
 v124:=Tryz.zeroValue275 }
def qrk:Go.Shelf.Ren:=⟨λ|171=>67|243=>105|246=>133|283=>151|284=>152|285=>153|286=>154|129=>175|317=>174|318=>176|319=>177|320=>178|337=>203|338=>204|n=>n,λ|3=>3|9=>9|2=>2|4=>4|171=>211|0=>0|53=>31|37=>26|5=>5|173=>214|212=>244|51=>173|20=>20|213=>245|46=>145|232=>297|233=>298|n=>n,λ|17=>1|18=>4|19=>5|n=>n⟩
theorem laysM171:Go.Proofs.LaysM.n171 Tryz.prog qrk:={
 mixed:=by kernel_rfl
 f129:=Tryz.func175.trans (congrArg some (by kernel_rfl))
 f171:=Tryz.func67.trans (congrArg some (by kernel_rfl))
 f243:=Tryz.func105.trans (congrArg some (by kernel_rfl))
 f246:=Tryz.func133.trans (congrArg some (by kernel_rfl))
 f283:=Tryz.func151.trans (congrArg some (by kernel_rfl))
 f284:=Tryz.func152.trans (congrArg some (by kernel_rfl))
 f285:=Tryz.func153.trans (congrArg some (by kernel_rfl))
 f286:=Tryz.func154.trans (congrArg some (by kernel_rfl))
 f317:=Tryz.func174.trans (congrArg some (by kernel_rfl))
 f318:=Tryz.func176.trans (congrArg some (by kernel_rfl))
 f319:=Tryz.func177.trans (congrArg some (by kernel_rfl))
 f320:=Tryz.func178.trans (congrArg some (by kernel_rfl))
 f337:=Tryz.func203.trans (congrArg some (by kernel_rfl))
 f338:=Tryz.func204.trans (congrArg some (by kernel_rfl))
 t0:=Tryz.underlying0
 a0:=Tryz.isAgg0
 z0:=Tryz.sizeOf0
 v0:=Tryz.zeroValue0
 t2:=Tryz.underlying2
 a2:=Tryz.isAgg2
 z2:=Tryz.sizeOf2
 v2:=Tryz.zeroValue2
 t3:=Tryz.underlying3
 a3:=Tryz.isAgg3
 z3:=Tryz.sizeOf3
 v3:=Tryz.zeroValue3
 t4:=Tryz.underlying4
 a4:=Tryz.isAgg4
 z4:=Tryz.sizeOf4
 v4:=Tryz.zeroValue4
 t5:=Tryz.underlying5
 a5:=Tryz.isAgg5
 z5:=Tryz.sizeOf5
 v5:=Tryz.zeroValue5
 t9:=Tryz.underlying9
 a9:=Tryz.isAgg9
 z9:=Tryz.sizeOf9
 v9:=Tryz.zeroValue9
 t20:=Tryz.underlying20
 a20:=Tryz.isAgg20
 z20:=Tryz.sizeOf20
 v20:=Tryz.zeroValue20
 t37:=Tryz.underlying26
 a37:=Tryz.isAgg26
 z37:=Tryz.sizeOf26
 v37:=Tryz.zeroValue26
 t46:=Tryz.underlying145
 a46:=Tryz.isAgg145
 z46:=Tryz.sizeOf145
 v46:=Tryz.zeroValue145
 t51:=Tryz.underlying173
 a51:=Tryz.isAgg173
 z51:=Tryz.sizeOf173
 v51:=Tryz.zeroValue173
 t53:=Tryz.underlying31
 a53:=Tryz.isAgg31
 z53:=Tryz.sizeOf31
 v53:=Tryz.zeroValue31
 t171:=Tryz.underlying211
 a171:=Tryz.isAgg211
 z171:=Tryz.sizeOf211
 v171:=Tryz.zeroValue211
 t173:=Tryz.underlying214
 a173:=Tryz.isAgg214
 z173:=Tryz.sizeOf214
 v173:=Tryz.zeroValue214
 t212:=Tryz.underlying244
 a212:=Tryz.isAgg244
 z212:=Tryz.sizeOf244
 v212:=Tryz.zeroValue244
 t213:=Tryz.underlying245
 a213:=Tryz.isAgg245
 z213:=Tryz.sizeOf245
 t232:=Tryz.underlying297
 a232:=Tryz.isAgg297
 z232:=Tryz.sizeOf297
 v232:=Tryz.zeroValue297
 t233:=Tryz.underlying298
 a233:=Tryz.isAgg298
 z233:=Tryz.sizeOf298
 v233:=Tryz.zeroValue298
 g17:=by kernel_rfl
 g18:=by kernel_rfl
 g19:=by kernel_rfl
 i0:=by kernel_rfl
 i2:=by kernel_rfl
 i3:=by kernel_rfl
 i4:=by kernel_rfl
 i5:=by kernel_rfl
 i9:=by kernel_rfl
 i20:=by kernel_rfl
 i37:=by kernel_rfl
 i46:=by kernel_rfl
 i51:=by kernel_rfl
 i53:=by kernel_rfl
 i171:=by kernel_rfl
 i173:=by kernel_rfl
 i212:=by kernel_rfl
 i232:=by kernel_rfl
 i233:=by kernel_rfl
 m17:=by kernel_rfl
 m18:=by kernel_rfl
 m19:=by kernel_rfl }
def qrj:Go.Shelf.Ren:=⟨λ|172=>156|244=>183|245=>184|247=>206|279=>207|280=>208|281=>209|282=>210|287=>223|316=>224|171=>67|205=>225|321=>233|322=>234|243=>105|246=>133|283=>151|284=>152|285=>153|286=>154|129=>175|317=>174|318=>176|319=>177|320=>178|337=>203|338=>204|n=>n,λ|9=>9|3=>3|75=>141|76=>142|4=>4|5=>5|167=>276|37=>26|0=>0|85=>277|2=>2|168=>279|53=>31|175=>299|46=>145|210=>302|127=>165|145=>308|143=>306|21=>21|171=>211|173=>214|212=>244|51=>173|20=>20|213=>245|232=>297|233=>298|80=>144|n=>n,λ|15=>6|16=>7|17=>1|18=>4|19=>5|n=>n⟩
theorem laysC172:Go.Proofs.LaysC.n172 Tryz.prog qrj:={
 mixed:=by kernel_rfl
 f129:=Tryz.func175.trans (congrArg some (by kernel_rfl))
 f171:=Tryz.func67.trans (congrArg some (by kernel_rfl))
 f172:=Tryz.func156.trans (congrArg some (by kernel_rfl))
 f205:=Tryz.func225.trans (congrArg some (by kernel_rfl))
 f243:=Tryz.func105.trans (congrArg some (by kernel_rfl))
 f244:=Tryz.func183.trans (congrArg some (by kernel_rfl))
 f245:=Tryz.func184.trans (congrArg some (by kernel_rfl))
 f246:=Tryz.func133.trans (congrArg some (by kernel_rfl))
 f247:=Tryz.func206.trans (congrArg some (by kernel_rfl))
 f279:=Tryz.func207.trans (congrArg some (by kernel_rfl))
 f280:=Tryz.func208.trans (congrArg some (by kernel_rfl))
 f281:=Tryz.func209.trans (congrArg some (by kernel_rfl))
 f282:=Tryz.func210.trans (congrArg some (by kernel_rfl))
 f283:=Tryz.func151.trans (congrArg some (by kernel_rfl))
 f284:=Tryz.func152.trans (congrArg some (by kernel_rfl))
 f285:=Tryz.func153.trans (congrArg some (by kernel_rfl))
 f286:=Tryz.func154.trans (congrArg some (by kernel_rfl))
 f287:=Tryz.func223.trans (congrArg some (by kernel_rfl))
 f316:=Tryz.func224.trans (congrArg some (by kernel_rfl))
 f317:=Tryz.func174.trans (congrArg some (by kernel_rfl))
 f318:=Tryz.func176.trans (congrArg some (by kernel_rfl))
 f319:=Tryz.func177.trans (congrArg some (by kernel_rfl))
 f320:=Tryz.func178.trans (congrArg some (by kernel_rfl))
 f321:=Tryz.func233.trans (congrArg some (by kernel_rfl))
 f322:=Tryz.func234.trans (congrArg some (by kernel_rfl))
 f337:=Tryz.func203.trans (congrArg some (by kernel_rfl))
 f338:=Tryz.func204.trans (congrArg some (by kernel_rfl))
 t0:=Tryz.underlying0
 a0:=Tryz.isAgg0
 z0:=Tryz.sizeOf0
 v0:=Tryz.zeroValue0
 t2:=Tryz.underlying2
 a2:=Tryz.isAgg2
 z2:=Tryz.sizeOf2
 v2:=Tryz.zeroValue2
 t3:=Tryz.underlying3
 a3:=Tryz.isAgg3
 z3:=Tryz.sizeOf3
 v3:=Tryz.zeroValue3
 t4:=Tryz.underlying4
 a4:=Tryz.isAgg4
 z4:=Tryz.sizeOf4
 v4:=Tryz.zeroValue4
 t5:=Tryz.underlying5
 a5:=Tryz.isAgg5
 z5:=Tryz.sizeOf5
 v5:=Tryz.zeroValue5
 t9:=Tryz.underlying9
 a9:=Tryz.isAgg9
 z9:=Tryz.sizeOf9
 v9:=Tryz.zeroValue9
 t20:=Tryz.underlying20
 a20:=Tryz.isAgg20
 z20:=Tryz.sizeOf20
 v20:=Tryz.zeroValue20
 t21:=Tryz.underlying21
 a21:=Tryz.isAgg21
 z21:=Tryz.sizeOf21
 v21:=Tryz.zeroValue21
 t37:=Tryz.underlying26
 a37:=Tryz.isAgg26
 z37:=Tryz.sizeOf26
 v37:=Tryz.zeroValue26
 t46:=Tryz.underlying145
 a46:=Tryz.isAgg145
 z46:=Tryz.sizeOf145
 v46:=Tryz.zeroValue145
 t51:=Tryz.underlying173
 a51:=Tryz.isAgg173
 z51:=Tryz.sizeOf173
 v51:=Tryz.zeroValue173
 t53:=Tryz.underlying31
 a53:=Tryz.isAgg31
 z53:=Tryz.sizeOf31
 v53:=Tryz.zeroValue31
 t75:=Tryz.underlying141
 a75:=Tryz.isAgg141
 z75:=Tryz.sizeOf141
 v75:=Tryz.zeroValue141
 t76:=Tryz.underlying142
 a76:=Tryz.isAgg142
 z76:=Tryz.sizeOf142
 v76:=Tryz.zeroValue142
 t85:=Tryz.underlying277
 a85:=Tryz.isAgg277
 z85:=Tryz.sizeOf277
 v85:=Tryz.zeroValue277
 t127:=Tryz.underlying165
 a127:=Tryz.isAgg165
 z127:=Tryz.sizeOf165
 v127:=Tryz.zeroValue165
 t143:=Tryz.underlying306
 a143:=Tryz.isAgg306
 z143:=Tryz.sizeOf306
 v143:=Tryz.zeroValue306
 t145:=Tryz.underlying308
 a145:=Tryz.isAgg308
 z145:=Tryz.sizeOf308
 v145:=Tryz.zeroValue308
 t167:=Tryz.underlying276
 a167:=Tryz.isAgg276
 z167:=Tryz.sizeOf276
 v167:=Tryz.zeroValue276
 t168:=Tryz.underlying279
 a168:=Tryz.isAgg279
 z168:=Tryz.sizeOf279
 v168:=Tryz.zeroValue279
 t171:=Tryz.underlying211
 a171:=Tryz.isAgg211
 z171:=Tryz.sizeOf211
 v171:=Tryz.zeroValue211
 t173:=Tryz.underlying214
 a173:=Tryz.isAgg214
 z173:=Tryz.sizeOf214
 v173:=Tryz.zeroValue214
 t175:=Tryz.underlying299
 a175:=Tryz.isAgg299
 z175:=Tryz.sizeOf299
 v175:=Tryz.zeroValue299
 t210:=Tryz.underlying302
 a210:=Tryz.isAgg302
 z210:=Tryz.sizeOf302
 v210:=Tryz.zeroValue302
 t212:=Tryz.underlying244
 a212:=Tryz.isAgg244
 z212:=Tryz.sizeOf244
 v212:=Tryz.zeroValue244
 t213:=Tryz.underlying245
 a213:=Tryz.isAgg245
 z213:=Tryz.sizeOf245
 t232:=Tryz.underlying297
 a232:=Tryz.isAgg297
 z232:=Tryz.sizeOf297
 v232:=Tryz.zeroValue297
 t233:=Tryz.underlying298
 a233:=Tryz.isAgg298
 z233:=Tryz.sizeOf298
 v233:=Tryz.zeroValue298
 g15:=by kernel_rfl
 g16:=by kernel_rfl
 g17:=by kernel_rfl
 g18:=by kernel_rfl
 g19:=by kernel_rfl
 t80:=Tryz.underlying144
 a80:=Tryz.isAgg144
 z80:=Tryz.sizeOf144
 v80:=Tryz.zeroValue144
 i0:=by kernel_rfl
 i2:=by kernel_rfl
 i3:=by kernel_rfl
 i4:=by kernel_rfl
 i5:=by kernel_rfl
 i9:=by kernel_rfl
 i20:=by kernel_rfl
 i21:=by kernel_rfl
 i37:=by kernel_rfl
 i46:=by kernel_rfl
 i51:=by kernel_rfl
 i53:=by kernel_rfl
 i75:=by kernel_rfl
 i76:=by kernel_rfl
 i80:=by kernel_rfl
 i85:=by kernel_rfl
 i127:=by kernel_rfl
 i143:=by kernel_rfl
 i145:=by kernel_rfl
 i167:=by kernel_rfl
 i168:=by kernel_rfl
 i171:=by kernel_rfl
 i173:=by kernel_rfl
 i175:=by kernel_rfl
 i210:=by kernel_rfl
 i212:=by kernel_rfl
 i232:=by kernel_rfl
 i233:=by kernel_rfl
 m15:=by kernel_rfl
 m16:=by kernel_rfl
 m17:=by kernel_rfl
 m18:=by kernel_rfl
 m19:=by kernel_rfl
 c0:=by kernel_rfl
 c2:=by kernel_rfl
 c3:=by kernel_rfl
 c4:=by kernel_rfl
 c5:=by kernel_rfl
 c9:=by kernel_rfl
 c20:=by kernel_rfl
 c21:=by kernel_rfl
 c37:=by kernel_rfl
 c46:=by kernel_rfl
 c51:=by kernel_rfl
 c53:=by kernel_rfl
 c75:=by kernel_rfl
 c76:=by kernel_rfl
 c80:=by kernel_rfl
 c85:=by kernel_rfl
 c127:=by kernel_rfl
 c143:=by kernel_rfl
 c145:=by kernel_rfl
 c167:=by kernel_rfl
 c168:=by kernel_rfl
 c171:=by kernel_rfl
 c173:=by kernel_rfl
 c175:=by kernel_rfl
 c210:=by kernel_rfl
 c212:=by kernel_rfl
 c213:=by kernel_rfl
 c232:=by kernel_rfl
 c233:=by kernel_rfl }
def qra:Go.Shelf.Ren:=⟨λ|138=>262|195=>263|218=>264|143=>192|219=>167|217=>71|225=>195|224=>189|267=>196|266=>109|314=>213|n=>n,λ|9=>9|3=>3|4=>4|5=>5|0=>0|46=>145|146=>174|51=>173|n=>n,λ|1=>0|n=>n⟩
theorem lays138:Go.Proofs.Lays.n138 Tryz.prog qra:={
 mixed:=by kernel_rfl
 f138:=Tryz.func262.trans (congrArg some (by kernel_rfl))
 f143:=Tryz.func192.trans (congrArg some (by kernel_rfl))
 f195:=Tryz.func263.trans (congrArg some (by kernel_rfl))
 f217:=Tryz.func71.trans (congrArg some (by kernel_rfl))
 f218:=Tryz.func264.trans (congrArg some (by kernel_rfl))
 f219:=Tryz.func167.trans (congrArg some (by kernel_rfl))
 f224:=Tryz.func189.trans (congrArg some (by kernel_rfl))
 f225:=Tryz.func195.trans (congrArg some (by kernel_rfl))
 f266:=Tryz.func109.trans (congrArg some (by kernel_rfl))
 f267:=Tryz.func196.trans (congrArg some (by kernel_rfl))
 f314:=Tryz.func213.trans (congrArg some (by kernel_rfl))
 t0:=Tryz.underlying0
 a0:=Tryz.isAgg0
 z0:=Tryz.sizeOf0
 v0:=Tryz.zeroValue0
 t3:=Tryz.underlying3
 a3:=Tryz.isAgg3
 z3:=Tryz.sizeOf3
 v3:=Tryz.zeroValue3
 t4:=Tryz.underlying4
 a4:=Tryz.isAgg4
 z4:=Tryz.sizeOf4
 v4:=Tryz.zeroValue4
 t5:=Tryz.underlying5
 a5:=Tryz.isAgg5
 z5:=Tryz.sizeOf5
 v5:=Tryz.zeroValue5
 t9:=Tryz.underlying9
 a9:=Tryz.isAgg9
 z9:=Tryz.sizeOf9
 v9:=Tryz.zeroValue9
 t46:=Tryz.underlying145
 a46:=Tryz.isAgg145
 z46:=Tryz.sizeOf145
 v46:=Tryz.zeroValue145
 t51:=Tryz.underlying173
 a51:=Tryz.isAgg173
 z51:=Tryz.sizeOf173
 v51:=Tryz.zeroValue173
 t146:=Tryz.underlying174
 a146:=Tryz.isAgg174
 z146:=Tryz.sizeOf174
 v146:=Tryz.zeroValue174
 g1:=by kernel_rfl }
def qrf:Go.Shelf.Ren:=⟨λ|156=>50|165=>84|166=>85|169=>86|240=>117|241=>118|276=>138|277=>139|n=>n,λ|31=>32|9=>9|3=>3|4=>4|0=>0|20=>20|72=>138|76=>142|70=>136|37=>26|75=>141|127=>165|164=>201|5=>5|80=>144|n=>n,λ|n=>n⟩
theorem lays156:Go.Proofs.Lays.n156 Tryz.prog qrf:={
 mixed:=by kernel_rfl
 f156:=Tryz.func50.trans (congrArg some (by kernel_rfl))
 f165:=Tryz.func84.trans (congrArg some (by kernel_rfl))
 f166:=Tryz.func85.trans (congrArg some (by kernel_rfl))
 f169:=Tryz.func86.trans (congrArg some (by kernel_rfl))
 f240:=Tryz.func117.trans (congrArg some (by kernel_rfl))
 f241:=Tryz.func118.trans (congrArg some (by kernel_rfl))
 f276:=Tryz.func138.trans (congrArg some (by kernel_rfl))
 f277:=Tryz.func139.trans (congrArg some (by kernel_rfl))
 t0:=Tryz.underlying0
 a0:=Tryz.isAgg0
 z0:=Tryz.sizeOf0
 v0:=Tryz.zeroValue0
 t3:=Tryz.underlying3
 a3:=Tryz.isAgg3
 z3:=Tryz.sizeOf3
 v3:=Tryz.zeroValue3
 t4:=Tryz.underlying4
 a4:=Tryz.isAgg4
 z4:=Tryz.sizeOf4
 v4:=Tryz.zeroValue4
 t9:=Tryz.underlying9
 a9:=Tryz.isAgg9
 z9:=Tryz.sizeOf9
 v9:=Tryz.zeroValue9
 t20:=Tryz.underlying20
 a20:=Tryz.isAgg20
 z20:=Tryz.sizeOf20
 v20:=Tryz.zeroValue20
 t31:=Tryz.underlying32
 a31:=Tryz.isAgg32
 z31:=Tryz.sizeOf32
 v31:=Tryz.zeroValue32
 t37:=Tryz.underlying26
 a37:=Tryz.isAgg26
 z37:=Tryz.sizeOf26
 v37:=Tryz.zeroValue26
 t70:=Tryz.underlying136
 a70:=Tryz.isAgg136
 z70:=Tryz.sizeOf136
 v70:=Tryz.zeroValue136
 t72:=Tryz.underlying138
 a72:=Tryz.isAgg138
 z72:=Tryz.sizeOf138
 v72:=Tryz.zeroValue138
 t75:=Tryz.underlying141
 a75:=Tryz.isAgg141
 z75:=Tryz.sizeOf141
 v75:=Tryz.zeroValue141
 t76:=Tryz.underlying142
 a76:=Tryz.isAgg142
 z76:=Tryz.sizeOf142
 v76:=Tryz.zeroValue142
 t127:=Tryz.underlying165
 a127:=Tryz.isAgg165
 z127:=Tryz.sizeOf165
 v127:=Tryz.zeroValue165
 t164:=Tryz.underlying201
 a164:=Tryz.isAgg201
 z164:=Tryz.sizeOf201
 v164:=Tryz.zeroValue201 }
def qr7:Go.Shelf.Ren:=⟨λ|105=>62|212=>98|99=>99|165=>84|166=>85|170=>100|169=>86|263=>127|264=>128|206=>129|240=>117|241=>118|276=>138|277=>139|n=>n,λ|9=>9|3=>3|4=>4|20=>20|0=>0|46=>145|109=>154|5=>5|72=>138|76=>142|51=>173|146=>174|53=>31|148=>176|70=>136|37=>26|75=>141|127=>165|164=>201|80=>144|n=>n,λ|n=>n⟩
theorem lays105:Go.Proofs.Lays.n105 Tryz.prog qr7:={
 mixed:=by kernel_rfl
 f99:=Tryz.func99.trans (congrArg some (by kernel_rfl))
 f105:=Tryz.func62.trans (congrArg some (by kernel_rfl))
 f165:=Tryz.func84.trans (congrArg some (by kernel_rfl))
 f166:=Tryz.func85.trans (congrArg some (by kernel_rfl))
 f169:=Tryz.func86.trans (congrArg some (by kernel_rfl))
 f170:=Tryz.func100.trans (congrArg some (by kernel_rfl))
 f206:=Tryz.func129.trans (congrArg some (by kernel_rfl))
 f212:=Tryz.func98.trans (congrArg some (by kernel_rfl))
 f240:=Tryz.func117.trans (congrArg some (by kernel_rfl))
 f241:=Tryz.func118.trans (congrArg some (by kernel_rfl))
 f263:=Tryz.func127.trans (congrArg some (by kernel_rfl))
 f264:=Tryz.func128.trans (congrArg some (by kernel_rfl))
 f276:=Tryz.func138.trans (congrArg some (by kernel_rfl))
 f277:=Tryz.func139.trans (congrArg some (by kernel_rfl))
 t0:=Tryz.underlying0
 a0:=Tryz.isAgg0
 z0:=Tryz.sizeOf0
 v0:=Tryz.zeroValue0
 t3:=Tryz.underlying3
 a3:=Tryz.isAgg3
 z3:=Tryz.sizeOf3
 v3:=Tryz.zeroValue3
 t4:=Tryz.underlying4
 a4:=Tryz.isAgg4
 z4:=Tryz.sizeOf4
 v4:=Tryz.zeroValue4
 t5:=Tryz.underlying5
 a5:=Tryz.isAgg5
 z5:=Tryz.sizeOf5
 v5:=Tryz.zeroValue5
 t9:=Tryz.underlying9
 a9:=Tryz.isAgg9
 z9:=Tryz.sizeOf9
 v9:=Tryz.zeroValue9
 t20:=Tryz.underlying20
 a20:=Tryz.isAgg20
 z20:=Tryz.sizeOf20
 v20:=Tryz.zeroValue20
 t37:=Tryz.underlying26
 a37:=Tryz.isAgg26
 z37:=Tryz.sizeOf26
 v37:=Tryz.zeroValue26
 t46:=Tryz.underlying145
 a46:=Tryz.isAgg145
 z46:=Tryz.sizeOf145
 v46:=Tryz.zeroValue145
 t51:=Tryz.underlying173
 a51:=Tryz.isAgg173
 z51:=Tryz.sizeOf173
 v51:=Tryz.zeroValue173
 t53:=Tryz.underlying31
 a53:=Tryz.isAgg31
 z53:=Tryz.sizeOf31
 v53:=Tryz.zeroValue31
 t70:=Tryz.underlying136
 a70:=Tryz.isAgg136
 z70:=Tryz.sizeOf136
 v70:=Tryz.zeroValue136
 t72:=Tryz.underlying138
 a72:=Tryz.isAgg138
 z72:=Tryz.sizeOf138
 v72:=Tryz.zeroValue138
 t75:=Tryz.underlying141
 a75:=Tryz.isAgg141
 z75:=Tryz.sizeOf141
 v75:=Tryz.zeroValue141
 t76:=Tryz.underlying142
 a76:=Tryz.isAgg142
 z76:=Tryz.sizeOf142
 v76:=Tryz.zeroValue142
 t109:=Tryz.underlying154
 a109:=Tryz.isAgg154
 z109:=Tryz.sizeOf154
 v109:=Tryz.zeroValue154
 t127:=Tryz.underlying165
 a127:=Tryz.isAgg165
 z127:=Tryz.sizeOf165
 v127:=Tryz.zeroValue165
 t146:=Tryz.underlying174
 a146:=Tryz.isAgg174
 z146:=Tryz.sizeOf174
 v146:=Tryz.zeroValue174
 t148:=Tryz.underlying176
 a148:=Tryz.isAgg176
 z148:=Tryz.sizeOf176
 v148:=Tryz.zeroValue176
 t164:=Tryz.underlying201
 a164:=Tryz.isAgg201
 z164:=Tryz.sizeOf201
 v164:=Tryz.zeroValue201 }
def qrh:Go.Shelf.Ren:=⟨λ|169=>86|n=>n,λ|70=>136|9=>9|0=>0|72=>138|37=>26|127=>165|3=>3|5=>5|n=>n,λ|n=>n⟩
theorem lays169:Go.Proofs.Lays.n169 Tryz.prog qrh:={
 mixed:=by kernel_rfl
 f169:=Tryz.func86.trans (congrArg some (by kernel_rfl))
 t0:=Tryz.underlying0
 a0:=Tryz.isAgg0
 z0:=Tryz.sizeOf0
 v0:=Tryz.zeroValue0
 t3:=Tryz.underlying3
 a3:=Tryz.isAgg3
 z3:=Tryz.sizeOf3
 v3:=Tryz.zeroValue3
 t9:=Tryz.underlying9
 a9:=Tryz.isAgg9
 z9:=Tryz.sizeOf9
 v9:=Tryz.zeroValue9
 t37:=Tryz.underlying26
 a37:=Tryz.isAgg26
 z37:=Tryz.sizeOf26
 v37:=Tryz.zeroValue26
 t70:=Tryz.underlying136
 a70:=Tryz.isAgg136
 z70:=Tryz.sizeOf136
 v70:=Tryz.zeroValue136
 t72:=Tryz.underlying138
 a72:=Tryz.isAgg138
 z72:=Tryz.sizeOf138
 v72:=Tryz.zeroValue138
 t127:=Tryz.underlying165
 a127:=Tryz.isAgg165
 z127:=Tryz.sizeOf165
 v127:=Tryz.zeroValue165 }
def qri:Go.Shelf.Ren:=⟨λ|185=>159|187=>186|115=>187|253=>188|224=>189|254=>190|255=>211|291=>212|n=>n,λ|37=>26|3=>3|4=>4|0=>0|5=>5|46=>145|9=>9|146=>174|51=>173|n=>n,λ|1=>0|n=>n⟩
theorem lays185:Go.Proofs.Lays.n185 Tryz.prog qri:={
 mixed:=by kernel_rfl
 f115:=Tryz.func187.trans (congrArg some (by kernel_rfl))
 f185:=Tryz.func159.trans (congrArg some (by kernel_rfl))
 f187:=Tryz.func186.trans (congrArg some (by kernel_rfl))
 f224:=Tryz.func189.trans (congrArg some (by kernel_rfl))
 f253:=Tryz.func188.trans (congrArg some (by kernel_rfl))
 f254:=Tryz.func190.trans (congrArg some (by kernel_rfl))
 f255:=Tryz.func211.trans (congrArg some (by kernel_rfl))
 f291:=Tryz.func212.trans (congrArg some (by kernel_rfl))
 t0:=Tryz.underlying0
 a0:=Tryz.isAgg0
 z0:=Tryz.sizeOf0
 v0:=Tryz.zeroValue0
 t3:=Tryz.underlying3
 a3:=Tryz.isAgg3
 z3:=Tryz.sizeOf3
 v3:=Tryz.zeroValue3
 t4:=Tryz.underlying4
 a4:=Tryz.isAgg4
 z4:=Tryz.sizeOf4
 v4:=Tryz.zeroValue4
 t5:=Tryz.underlying5
 a5:=Tryz.isAgg5
 z5:=Tryz.sizeOf5
 v5:=Tryz.zeroValue5
 t9:=Tryz.underlying9
 a9:=Tryz.isAgg9
 z9:=Tryz.sizeOf9
 v9:=Tryz.zeroValue9
 t37:=Tryz.underlying26
 a37:=Tryz.isAgg26
 z37:=Tryz.sizeOf26
 v37:=Tryz.zeroValue26
 t46:=Tryz.underlying145
 a46:=Tryz.isAgg145
 z46:=Tryz.sizeOf145
 v46:=Tryz.zeroValue145
 t51:=Tryz.underlying173
 a51:=Tryz.isAgg173
 z51:=Tryz.sizeOf173
 v51:=Tryz.zeroValue173
 t146:=Tryz.underlying174
 a146:=Tryz.isAgg174
 z146:=Tryz.sizeOf174
 v146:=Tryz.zeroValue174
 g1:=by kernel_rfl }
theorem qb:Builder.Extra Tryz.prog qrf:={
 sizeBuilder:=by kernel_rfl
 liesBuilder:=by kernel_rfl
 t5:=Tryz.underlying5
 a5:=Tryz.isAgg5
 z5:=Tryz.sizeOf5
 v5:=Tryz.zeroValue5
 infoByte:=by kernel_rfl
 cellsByte:=by kernel_rfl
 sizeByte:=by kernel_rfl
 neB5:=by decide }
theorem qa:Builder.Extra Tryz.prog qr7:={
 sizeBuilder:=by kernel_rfl
 liesBuilder:=by kernel_rfl
 t5:=Tryz.underlying5
 a5:=Tryz.isAgg5
 z5:=Tryz.sizeOf5
 v5:=Tryz.zeroValue5
 infoByte:=by kernel_rfl
 cellsByte:=by kernel_rfl
 sizeByte:=by kernel_rfl
 neB5:=by decide }
theorem qd:Builder.Extra Tryz.prog qrh:={
 sizeBuilder:=by kernel_rfl
 liesBuilder:=by kernel_rfl
 t5:=Tryz.underlying5
 a5:=Tryz.isAgg5
 z5:=Tryz.sizeOf5
 v5:=Tryz.zeroValue5
 infoByte:=by kernel_rfl
 cellsByte:=by kernel_rfl
 sizeByte:=by kernel_rfl
 neB5:=by decide }
def qrg:Go.Shelf.Ren:=⟨λ|166=>85|240=>117|276=>138|n=>n,λ|0=>0|3=>3|4=>4|9=>9|20=>20|37=>26|5=>5|70=>136|72=>138|75=>141|80=>144|164=>201|n=>n,λ|n=>n⟩
theorem lays166:Go.Proofs.Lays.n166 Tryz.prog qrg:={
 mixed:=by kernel_rfl
 f166:=Tryz.func85.trans (congrArg some (by kernel_rfl))
 f240:=Tryz.func117.trans (congrArg some (by kernel_rfl))
 f276:=Tryz.func138.trans (congrArg some (by kernel_rfl))
 t0:=Tryz.underlying0
 a0:=Tryz.isAgg0
 z0:=Tryz.sizeOf0
 v0:=Tryz.zeroValue0
 t3:=Tryz.underlying3
 a3:=Tryz.isAgg3
 z3:=Tryz.sizeOf3
 v3:=Tryz.zeroValue3
 t4:=Tryz.underlying4
 a4:=Tryz.isAgg4
 z4:=Tryz.sizeOf4
 v4:=Tryz.zeroValue4
 t9:=Tryz.underlying9
 a9:=Tryz.isAgg9
 z9:=Tryz.sizeOf9
 v9:=Tryz.zeroValue9
 t20:=Tryz.underlying20
 a20:=Tryz.isAgg20
 z20:=Tryz.sizeOf20
 v20:=Tryz.zeroValue20
 t37:=Tryz.underlying26
 a37:=Tryz.isAgg26
 z37:=Tryz.sizeOf26
 v37:=Tryz.zeroValue26
 t70:=Tryz.underlying136
 a70:=Tryz.isAgg136
 z70:=Tryz.sizeOf136
 v70:=Tryz.zeroValue136
 t72:=Tryz.underlying138
 a72:=Tryz.isAgg138
 z72:=Tryz.sizeOf138
 v72:=Tryz.zeroValue138
 t75:=Tryz.underlying141
 a75:=Tryz.isAgg141
 z75:=Tryz.sizeOf141
 v75:=Tryz.zeroValue141
 t164:=Tryz.underlying201
 a164:=Tryz.isAgg201
 z164:=Tryz.sizeOf201
 v164:=Tryz.zeroValue201 }
theorem qc:Builder.Extra Tryz.prog qrg:={
 sizeBuilder:=by kernel_rfl
 liesBuilder:=by kernel_rfl
 t5:=Tryz.underlying5
 a5:=Tryz.isAgg5
 z5:=Tryz.sizeOf5
 v5:=Tryz.zeroValue5
 infoByte:=by kernel_rfl
 cellsByte:=by kernel_rfl
 sizeByte:=by kernel_rfl
 neB5:=by decide }
end Go.Proofs.YtmlcmoaonaomfaaGreatDoor
namespace Go.Proofs.YtmlcmoaonaomfaaGreatDoor
open Go.RowKit
theorem qco (r:Int) (h:128<=r):∃ l:List UInt8,∃ x:UInt8,Utf8.encode r=⟨(l++[x]).toArray⟩/\128<=x.toNat/\1<=l.length/\l.length<=3:=by
 have hc:128<=(if Utf8.valid r then r.toNat else Utf8.runeError)/\(if Utf8.valid r then r.toNat else Utf8.runeError)<2097152:=by
  split
  ·rename_i hv
   unfold Utf8.valid at hv;simp at hv;omega
  ·unfold Utf8.runeError;omega
 unfold Utf8.encode;simp only;generalize (if Utf8.valid r then r.toNat else Utf8.runeError)=c at hc
 have hb:∀ n,128<=(UInt8.ofNat (128+n % 64)).toNat:=by
  intro n;rw [y47q];have:n % 64<64:=Nat.mod_lt _ (by decide)
  omega
 rw [if_neg (by omega)]
 split
 ·exact ⟨[_],_,rfl,hb _,by simp,by simp⟩
 ·split
  ·exact ⟨[_,_],_,rfl,hb _,by simp,by simp⟩
  ·exact ⟨[_,_,_],_,rfl,hb _,by simp,by simp⟩
theorem qb4 (s:BA) (i:Nat) (hi:i<s.size) (h:128<=(s[i]'hi).toNat):128<=(Utf8.decode s i).1/\(Utf8.decode s i).1<2147483648/\1<=(Utf8.decode s i).2/\i+(Utf8.decode s i).2<=s.size/\∀ j (hj:j<s.size),i<=j->j<i+(Utf8.decode s i).2->128<=(s[j]'hj).toNat:=by
 have g:∀ j (hj:j<s.size),s.get! j=s[j]'hj:=by intro j hj;simp [ByteArray.get!,getElem!_pos,hj];rfl
 have hone:∀ j (hj:j<s.size),i<=j->j<i+1->128<=(s[j]'hj).toNat:=by
  intro j hj h1 h2;have:j=i:=by omega
  subst this;exact h
 have hcont:∀ k,(decide (i+k<s.size)&&(s.get! (i+k)).toNat / 64==2)=true->∃ hk:i+k<s.size,128<=(s[i+k]'hk).toNat:=by
  intro k hk;simp at hk;refine ⟨hk.1,?_⟩;have:=hk.2
  rw [g _ hk.1] at this;omega
 have h0:(s.get! (i+0)).toNat=(s[i]'hi).toNat:=by rw [Nat.add_zero,g i hi]
 have herr:128<=Utf8.runeError/\Utf8.runeError<2147483648:=by unfold Utf8.runeError;omega
 unfold Utf8.decode;simp only [h0];rw [if_neg (by omega)]
 split
 ·rename_i hh
  rw [x6q] at hh;obtain ⟨k1,c1⟩:=hcont 1 hh.2;split
  ·rename_i hc
   refine ⟨hc,?_,by simp,by simp;omega,?_⟩
   ·have:(s[i]'hi).toNat<256:=UInt8.toNat_lt _
    simp only;have h1:=Nat.mod_lt (s[i]'hi).toNat (show 32>0 by decide)
    have h2:=Nat.mod_lt (s.get! (i+1)).toNat (show 64>0 by decide)
    omega
   ·intro j hj h1 h2
    simp only at h2;rcases (by omega:j=i∨j=i+1) with rfl|rfl
    ·exact h
    ·exact c1
  ·exact ⟨herr.1,herr.2,by simp,by simp;omega,hone⟩
 ·split
  ·rename_i hh
   rw [x6q,x6q] at hh;obtain ⟨k1,c1⟩:=hcont 1 hh.1.2;obtain ⟨k2,c2⟩:=hcont 2 hh.2;split
   ·rename_i hc
    rw [x6q] at hc;refine ⟨?_,?_,by simp,by simp;omega,?_⟩
    ·have:=of_decide_eq_true hc.1
     simp only;omega
    ·simp only
     have h1:=Nat.mod_lt (s[i]'hi).toNat (show 16>0 by decide)
     have h2:=Nat.mod_lt (s.get! (i+1)).toNat (show 64>0 by decide)
     have h3:=Nat.mod_lt (s.get! (i+2)).toNat (show 64>0 by decide)
     omega
    ·intro j hj h1 h2
     simp only at h2;rcases (by omega:j=i∨j=i+1∨j=i+2) with rfl|rfl|rfl
     ·exact h
     ·exact c1
     ·exact c2
   ·exact ⟨herr.1,herr.2,by simp,by simp;omega,hone⟩
  ·split
   ·rename_i hh
    rw [x6q,x6q,x6q] at hh;obtain ⟨k1,c1⟩:=hcont 1 hh.1.1.2;obtain ⟨k2,c2⟩:=hcont 2 hh.1.2;obtain ⟨k3,c3⟩:=hcont 3 hh.2;split
    ·rename_i hc
     rw [x6q] at hc;refine ⟨?_,?_,by simp,by simp;omega,?_⟩
     ·have:=of_decide_eq_true hc.1
      simp only;omega
     ·simp only
      have h1:=Nat.mod_lt (s[i]'hi).toNat (show 8>0 by decide)
      have h2:=Nat.mod_lt (s.get! (i+1)).toNat (show 64>0 by decide)
      have h3:=Nat.mod_lt (s.get! (i+2)).toNat (show 64>0 by decide)
      have h4:=Nat.mod_lt (s.get! (i+3)).toNat (show 64>0 by decide)
      omega
     ·intro j hj h1 h2
      simp only at h2;rcases (by omega:j=i∨j=i+1∨j=i+2∨j=i+3) with rfl|rfl|rfl|rfl
      ·exact h
      ·exact c1
      ·exact c2
      ·exact c3
    ·exact ⟨herr.1,herr.2,by simp,by simp;omega,hone⟩
   ·exact ⟨herr.1,herr.2,by simp,by simp;omega,hone⟩
theorem qqb (s:BA) (c:Int) (w:World):Calls Tryz.prog 38 #[.string s,.int .u8 c] w λe w'=>e=.returned (.int .i64 (Lib.indexByte s.data.toList c.toNat.toUInt8))/\w'=w:=Any.strings_IndexByte lays137 s c w
theorem q1ja (r:Int) (w:World):Calls Tryz.prog 205 #[.int .i32 r] w λe w'=>e=.returned (.bool (Lib.validRune r))/\w'=w:=Any.utf8_ValidRune lays119 r w
theorem qcp (r:Int) (h:128<=r):(∃ a x,Utf8.encode r=⟨#[a,x]⟩/\128<=x.toNat)∨(∃ a b x,Utf8.encode r=⟨#[a,b,x]⟩/\128<=x.toNat)∨∃ a b c x,Utf8.encode r=⟨#[a,b,c,x]⟩/\128<=x.toNat:=by
 obtain ⟨l,x,he,hx,h1,h2⟩:=qco r h
 match l,h1,h2,he with
 |[a],_,_,he=>exact .inl ⟨a,x,he,hx⟩
 |[a,b],_,_,he=>exact .inr (.inl ⟨a,b,x,he,hx⟩)
 |[a,b,c],_,_,he=>exact .inr (.inr ⟨a,b,c,x,he,hx⟩)
theorem qqc (s:BA) (x:UInt8) (hs:s.data.toList.all (λb=>decide (b.toNat<128))=true) (hx:128<=x.toNat) (w:World):Calls Tryz.prog 38 #[.string s,.int .u8 (x.toNat:Int)] w λe w'=>e=.returned (.int .i64 (-1))/\w'=w:=by
 have h:=qqb s (x.toNat:Int) w;have hb:((x.toNat:Int)).toNat.toUInt8=x:=by simp
 have:Lib.indexByte s.data.toList x=-1:=by
  generalize s.data.toList=l at hs;induction l with
  |nil=>rfl
  |cons b l ih =>
   rw [x17q,x6q] at hs;have h1:=of_decide_eq_true hs.1
   have hne:(b==x)=false:=by rw [beq_eq_false_iff_ne];intro e;subst e;omega
   rw [Lib.indexByte,hne,ih hs.2];rfl
 rw [hb,this] at h;exact h
theorem below_drewN' (w:World) (n:Nat):Below w.heap.size w (w.drewN n):=⟨rfl,rfl,rfl,Nat.le_refl _,λ_ _=>rfl⟩
theorem q7r (w:World) (o:Obj):Below w.heap.size w (w.alloc o):=(Below.refl _ w).alloc (Nat.le_refl _) o
set_option maxHeartbeats 4000000 in
set_option maxRecDepth 100000 in
theorem qqe (r:Int) (h:128<=r) (w:World):Calls Tryz.prog 179 #[.string ⟨#[13,10,0]⟩,.int .i32 r] w λe w'=>e=.returned (.int .i64 (-1))/\Below w.heap.size w w':=by
 have h0:(0:Int)<=r:=by omega
 have h1:¬ r<128:=by omega
 go_enter Tryz.func179,Tryz.ntmps179
 go_wp2_with (first
  |(go_at_call 205;refine (q1ja r _).mono ?_;rintro e w2 ⟨rfl,rfl⟩)
  |go_in)
 ·-- the rune of an error: none of the three
  have n0:=λty=>run_next_ascii (P:=Tryz.prog) w ⟨#[13,10,0]⟩ 0 ty (by decide) (by decide)
  have n1:=λty=>run_next_ascii (P:=Tryz.prog) w ⟨#[13,10,0]⟩ 1 ty (by decide) (by decide)
  have n2:=λty=>run_next_ascii (P:=Tryz.prog) w ⟨#[13,10,0]⟩ 2 ty (by decide) (by decide)
  have n3:=λty=>run_next_end (P:=Tryz.prog) w ⟨#[13,10,0]⟩ 3 ty (by decide)
  refine wp_loop_rounds 4 ?_;rw [rounds_succ]
  go_wp2
  rw [rounds_succ]
  go_wp2
  rw [rounds_succ]
  go_wp2
  rw [rounds_succ]
  go_wp2
  go_ret
  exact ⟨rfl,q7r _ _⟩
 ·go_ret
  exact ⟨rfl,Below.refl _ _⟩
 ·rcases qcp r h with ⟨a,x,he,hx⟩|⟨a,b,x,he,hx⟩|⟨a,b,c,x,he,hx⟩
  ·have d1:((10:Int) != (x.toNat:Int))=true:=by rw [bne_iff_ne];omega
   have d2:((0:Int) != (x.toNat:Int))=true:=by rw [bne_iff_ne];omega
   go_step3
   go_wp2
   refine wp_loop_rounds 1 ?_;rw [rounds_succ]
   go_wp2
   go_step3
   go_wp2
   go_quiet (fail)
   go_wp2
   go_quiet ((go_at_call 38;exact (qqc _ x (by decide) hx _).mono λ_ _ h=>⟨h.1,_,h.2⟩))
   go_wp2
   ·simp only [Exit.noGoto,Exit.inBlock,Exit.then]
    go_ret
    exact ⟨rfl,below_drewN' _ _⟩
   ·exfalso
    have hh:((10:Int) != (x.toNat:Int))=false:=by assumption
    exact absurd (d1.symm.trans hh) (by decide)
  ·have d1:((10:Int) != (x.toNat:Int))=true:=by rw [bne_iff_ne];omega
   have d2:((0:Int) != (x.toNat:Int))=true:=by rw [bne_iff_ne];omega
   go_step3
   go_wp2
   refine wp_loop_rounds 1 ?_;rw [rounds_succ]
   go_wp2
   go_step3
   go_wp2
   go_quiet (fail)
   go_wp2
   go_quiet ((go_at_call 38;exact (qqc _ x (by decide) hx _).mono λ_ _ h=>⟨h.1,_,h.2⟩))
   go_wp2
   ·simp only [Exit.noGoto,Exit.inBlock,Exit.then]
    go_ret
    exact ⟨rfl,below_drewN' _ _⟩
   ·exfalso
    have hh:((0:Int) != (x.toNat:Int))=false:=by assumption
    exact absurd (d2.symm.trans hh) (by decide)
  ·go_step3
   go_wp2
   refine wp_loop_rounds 1 ?_;rw [rounds_succ]
   go_wp2
   rw [Exit.noGoto_ret]
   go_ret
   exact ⟨rfl,Below.refl _ _⟩
end Go.Proofs.YtmlcmoaonaomfaaGreatDoor
