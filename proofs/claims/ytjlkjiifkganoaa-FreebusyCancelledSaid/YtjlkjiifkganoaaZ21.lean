/- What the pieces of freebusy.Union compute, in plain words. -/
import Derived.Test.YtjlkjiifkganoaaH1
import Derived.Test.YtjlkjiifkganoaaZ20
import Derived.Shelf.Small.Bits
import Derived.Shelf.Small.Wraps
import Derived.Shelf.Strconv.Itoa0
import Derived.Shelf.Sort.Plain
import Derived.Shelf.Slices.Turned
import Derived.Ground.Names2Prog
import Derived.Shelf.Slices.CompactI
import Derived.Shelf.Slices.SearchI
import Derived.Shelf.Slices.Cells
import Derived.Shelf.Slices.In.SortNone
import Derived.Shelf.Slices.Empties
import Derived.Ground.SlgnProg
import Derived.Shelf.SlicesE.Compact
import Derived.Ground.SlgfProg
import Derived.Shelf.SlicesE.IndexFunc
import Derived.Shelf.SlicesE.DeleteFunc
import Derived.Test.YtjlkjiifkganoaaZ01
import Derived.Test.YtjlkjiifkganoaaChecked
import Derived.Test.YtjlkjiifkganoaaZ18
import Derived.Sort.OwnSortedInts
namespace Go.Proofs.Ytjlkjiifkganoaa
set_option linter.unusedSimpArgs false
open Go.RowKit
abbrev Pd:=S40
def badP (p:Pd):Bool:=decide (p.To≤p.From)
theorem qw2 (a b:Int):ubad_s a b=some (decide (b≤a)):=qw1 (by simp [ubad_t,ge_iff_le])
theorem q120 (xs:List Pd) (n:Nat) (h:n<xs.length):isP [.int .i64,.int .i64] 0 ((q11q.encL xs).getD n [])=true:=by rw [EC.getD_lt _ _ h];rfl
theorem q11z (xs:List Pd) (n:Nat) (h:n<xs.length):isP [.int .i64] 1 ((q11q.encL xs).getD n [])=true:=by rw [EC.getD_lt _ _ h];rfl
theorem qwu (l:List Pd) (hn:l.length≤9223372036854775807):∀ (m k:Nat),k+m=l.length →
  (qwm l l.length k).bind (Sum.elim (fun x=>some x.1) (fun _=>some (-1)))=some (gidx badP k (l.drop k)):=by
 intro m
 induction m with
 |zero =>
  intro k hk
  have:k=l.length:=by omega
  subst this
  have h1:qwm l l.length l.length=some (.inr ((l,(),(l.length:Int),(l.length:Int),false),())):=qwo (by
   simp only [qwt,q5n,qfl,EC.decL_encL,EC.isL_encL,EC.encL_length,qgv,q2i,q1l,q1x,qr7,q11y,q11d,q11e,q10j,q10m,q13m,q13l,q13n]
   simp)
  rw [h1]
  simp [gidx]
 |succ m ih =>
  intro k hk
  have hlt:k<l.length:=by omega
  rw [qa0 hlt,gidx]
  have hk':(k:Int)<(l.length:Int):=by omega
  by_cases hp:badP l[k]=true
  ·have h1:qwm l l.length k=some (.inl ((k:Int),())):=qwo (by
    have hp':=hp
    unfold badP at hp'
    simp only [qwt,q5n,qfl,EC.decL_encL,EC.isL_encL,EC.encL_length,qgv,q2i,q1l,q1x,qr7,q11y,q11d,q11e,q10j,q10m,q13m,q13l,q13n,Int.toNat_natCast,qfo hlt,qw2,Option.bind_some,hp']
    simp [hlt])
   rw [h1,if_pos hp]
   rfl
  ·have h2:=ih (k+1) (by omega)
   cases hz:qwm l l.length ((k+1:Nat):Int) with
   |none=>rw [hz] at h2;cases h2
   |some r =>
    have h1:qwm l l.length k=some r:=qwo (by
     have hp':=hp
     unfold badP at hp'
     simp only [qwt,q5n,qfl,EC.decL_encL,EC.isL_encL,EC.encL_length,qgv,q2i,q1l,q1x,qr7,q11y,q11d,q11e,q10j,q10m,q13m,q13l,q13n,Int.toNat_natCast,qfo hlt,qw2,Option.bind_some,hp',qy6 hlt hn,hz]
     simp [hlt])
    rw [if_neg hp,h1]
    rw [hz] at h2
    exact h2
theorem qwv (l:List Pd) (hn:l.length≤9223372036854775807):uidx_s l=some (gidx badP 0 l):=qwl (by
 have:=qwu l hn l.length 0 (by omega)
 simp only [uidx_t,qfl,EC.decL_encL,EC.isL_encL,EC.encL_length,qgv,q2i,q1l,q1x,qr7,q11y,q11d,q11e,q10j,q10m,q13m,q13l,q13n,if_true]
 exact this)
theorem qw9 (l:List Pd) (hn:l.length≤8796093022208):qw8 l=some (l.length,l):=by
 cases l with
 |nil=>exact qw7
 |cons x xs =>
  refine qw6 ?_
  simp only [qwa,qfl,EC.decL_encL,EC.isL_encL,EC.encL_length,qgv,q2i,q1l,q1x,qr7,q11y,q11d,q11e,q10j,q10m,q13m,q13l,q13n,List.nil_append,qb,Nat.zero_add,List.all_nil]
  simp only [List.length_cons] at hn
  simp
  omega
theorem qwi (n:Nat) (hn:n≤9223372036854775807):∀ (m i j:Nat) (b:List Pd),j+m=n→i≤j→b.length=n→(i<j∨m=0) →
  ∃ b':List Pd,qwc n i j b=some ((n,(),((i+((b.drop j).filter fun p=>!badP p).length:Nat):Int),(n:Int),false),b')∧b'.length=n∧b'.take (i+((b.drop j).filter fun p=>!badP p).length)=b.take i++(b.drop j).filter fun p=>!badP p:=by
 intro m
 induction m with
 |zero =>
  intro i j b hk hi hl _
  have hj:j=n:=by omega
  subst hj
  refine ⟨b,qwd ?_,hl,?_⟩
  ·rw [←hl]
   simp only [qwh,q5n,qfl,EC.decL_encL,EC.isL_encL,EC.encL_length,qgv,q2i,q1l,q1x,qr7,q11y,q11d,q11e,q10j,q10m,q13m,q13l,q13n]
   simp
  ·rw [←hl];simp
 |succ m ih =>
  intro i j b hk hi hl hij
  have hj:j<b.length:=by omega
  have hi':i<b.length:=by omega
  rw [qa0 hj]
  cases hp:badP b[j] with
  |true =>
   have ef:(b[j]::b.drop (j+1)).filter (fun p=>!badP p)=(b.drop (j+1)).filter fun p=>!badP p:=by rw [List.filter_cons,hp];rfl
   rw [ef]
   obtain ⟨b',h1,h2,h3⟩:=ih i (j+1) b (by omega) (by omega) hl (by omega)
   refine ⟨b',qwd ?_,h2,?_⟩
   ·have hp':=hp
    unfold badP at hp'
    simp only [qwh,q5n,qfl,EC.decL_encL,EC.isL_encL,EC.encL_length,qgv,q2i,q1l,q1x,qr7,q11y,q11d,q11e,q10j,q10m,q13m,q13l,q13n,Int.toNat_natCast,qfo hj,q120 b j hj,len_40 b j hj,qw2,Option.bind_some,hp',qy6 (show j<n by omega) hn,h1]
    have c2:((j:Nat):Int)<(n:Int):=by omega
    simp [hj,c2]
   ·exact h3
  |false =>
   have ef:(b[j]::b.drop (j+1)).filter (fun p=>!badP p)=b[j]::(b.drop (j+1)).filter fun p=>!badP p:=by rw [List.filter_cons,hp];rfl
   rw [ef]
   have hset:(b.set i b[j]).drop (j+1)=b.drop (j+1):=by
    apply List.ext_getElem?
    intro q
    rw [List.getElem?_drop,List.getElem?_drop,List.getElem?_set_ne (by omega)]
   obtain ⟨b',h1,h2,h3⟩:=ih (i+1) (j+1) (b.set i b[j]) (by omega) (by omega) (by simpa using hl) (by omega)
   rw [hset] at h1 h3
   have htake:(b.set i b[j]).take (i+1)=b.take i++[b[j]]:=by
    rw [qvs (by simpa using hi')]
    simp [List.take_set_of_le (Nat.le_refl i)]
   rw [htake] at h3
   have e:i+1+((b.drop (j+1)).filter fun p=>!badP p).length=i+(b[j]::(b.drop (j+1)).filter fun p=>!badP p).length:=by
    rw [List.length_cons];omega
   rw [e] at h1 h3
   refine ⟨b',qwd ?_,h2,?_⟩
   ·have hp':=hp
    unfold badP at hp'
    have hb:({ b[i] with From:=b[j].From,To:=b[j].To }:Pd)=b[j]:=by cases b[j];rfl
    have c1:((i:Nat):Int)<(n:Int):=by omega
    have c2:((j:Nat):Int)<(n:Int):=by omega
    simp only [qwh,q5n,qfl,EC.decL_encL,EC.isL_encL,EC.encL_length,qgv,q2i,q1l,q1x,qr7,q11y,q11d,q11e,q10j,q10m,q13m,q13l,q13n,Int.toNat_natCast,qfo hj,qfo hi',q120 b j hj,len_40 b j hj,len_40 b i hi',qw2,Option.bind_some,hp',qy6 (show j<n by omega) hn,qy6 (show i<n by omega) hn,hb,h1]
    simp [hj,hi',c1,c2]
   ·rw [h3,List.append_assoc];rfl
end Go.Proofs.Ytjlkjiifkganoaa
namespace Go.Proofs.Ytjlkjiifkganoaa
set_option linter.unusedSimpArgs false
open Go.RowKit
def NF:List Pd→Prop
 |[]=>True
 |p::l=>p.From<p.To∧(∀ q∈l,p.To<q.From)∧NF l
def Inn (l:List Pd) (x:Int):Prop:=∃ p∈l,p.From≤x∧x<p.To
theorem qm (x:Int):Inn [] x ↔ False:=by simp [Inn]
theorem qj (p:Pd) (l:List Pd) (x:Int):Inn (p::l) x ↔ (p.From≤x∧x<p.To)∨Inn l x:=by simp [Inn]
theorem qi (a b:List Pd) (x:Int):Inn (a++b) x ↔ Inn a x∨Inn b x:=by
 induction a with
 |nil=>simp [qm]
 |cons p a ih=>simp only [List.cons_append,qj,ih,or_assoc]
theorem NF_ext:∀ {a b:List Pd},NF a→NF b→(∀ x,Inn a x ↔ Inn b x)→a=b
 |[],[],_,_,_=>rfl
 |[],q::b,_,h,e=>by
  have:=(e q.From).2 ((qj _ _ _).2 (.inl ⟨Int.le_refl _,h.1⟩))
  simp [qm] at this
 |p::a,[],h,_,e=>by
  have:=(e p.From).1 ((qj _ _ _).2 (.inl ⟨Int.le_refl _,h.1⟩))
  simp [qm] at this
 |p::a,q::b,ha,hb,e=>by
  have lo:∀ {p:Pd} {a:List Pd} {x:Int},NF (p::a)→Inn (p::a) x→(p.From≤x∧x<p.To)∨(p.To<x∧Inn a x):=by
   intro p a x h hx
   rcases (qj _ _ _).1 hx with h1|h1
   ·exact .inl h1
   ·obtain ⟨r,hr,h2⟩:=h1
    have:=h.2.1 r hr
    exact .inr ⟨by omega,r,hr,h2⟩
  have hpf:Inn (p::a) p.From:=(qj _ _ _).2 (.inl ⟨Int.le_refl _,ha.1⟩)
  have hqf:Inn (q::b) q.From:=(qj _ _ _).2 (.inl ⟨Int.le_refl _,hb.1⟩)
  have h1:=lo hb ((e _).1 hpf)
  have h2:=lo ha ((e _).2 hqf)
  have ha1:=ha.1
  have hb1:=hb.1
  have ef:p.From=q.From:=by omega
  have et:p.To=q.To:=by
   rcases Int.lt_trichotomy p.To q.To with h|h|h
   ·have:=lo ha ((e p.To).2 ((qj _ _ _).2 (.inl ⟨by omega,h⟩)))
    omega
   ·exact h
   ·have:=lo hb ((e q.To).1 ((qj _ _ _).2 (.inl ⟨by omega,h⟩)))
    omega
  have epq:p=q:=by cases p;cases q;simp_all
  subst epq
  have:a=b:=NF_ext ha.2.2 hb.2.2 fun x=>by
   constructor
   ·intro hx
    obtain ⟨r,hr,h3⟩:=hx
    have h4:=ha.2.1 r hr
    have:=lo hb ((e x).1 ((qj _ _ _).2 (.inr ⟨r,hr,h3⟩)))
    rcases this with h5|h5
    ·omega
    ·exact h5.2
   ·intro hx
    obtain ⟨r,hr,h3⟩:=hx
    have h4:=hb.2.1 r hr
    have:=lo ha ((e x).2 ((qj _ _ _).2 (.inr ⟨r,hr,h3⟩)))
    rcases this with h5|h5
    ·omega
    ·exact h5.2
  rw [this]
theorem qo {a b:List Pd}:NF (a++b) ↔ NF a∧NF b∧∀ p∈a,∀ q∈b,p.To<q.From:=by
 induction a with
 |nil=>simp [NF]
 |cons p a ih =>
  simp only [List.cons_append,NF,ih,List.mem_append,List.mem_cons]
  constructor
  ·rintro ⟨h1,h2,h3,h4,h5⟩
   exact ⟨⟨h1,fun q hq=>h2 q (.inl hq),h3⟩,h4,fun r hr q hq=>hr.elim (fun e=>e ▸ h2 q (.inr hq)) (fun hr=>h5 r hr q hq)⟩
  ·rintro ⟨⟨h1,h2,h3⟩,h4,h5⟩
   exact ⟨h1,fun q hq=>hq.elim (h2 q) (fun hq=>h5 p (.inl rfl) q hq),h3,h4,fun r hr=>h5 r (.inr hr)⟩
def stepU (out:List Pd) (p:Pd):List Pd :=
 match out.getLast? with
 |some q=>if p.From≤q.To then out.dropLast++[⟨q.From,max q.To p.To⟩] else out++[p]
 |none=>[p]
def mergeU (out:List Pd) (l:List Pd):List Pd:=l.foldl stepU out
def SortedF:List Pd→Prop
 |[]=>True
 |p::l=>(∀ q∈l,p.From≤q.From)∧SortedF l
theorem qju:∀ (l out:List Pd),(∀ p∈l,p.From<p.To)→SortedF l→NF out→(∀ q∈out,∀ p∈l,q.From≤p.From)→NF (mergeU out l)∧∀ x,Inn (mergeU out l) x ↔ Inn out x∨Inn l x
 |[],out,_,_,ho,_=>⟨ho,fun x=>by simp [mergeU,qm]⟩
 |p::l,out,hl,hs,ho,hol=>by
  have hp:=hl p (by simp)
  have key:NF (stepU out p)∧(∀ x,Inn (stepU out p) x ↔ Inn out x∨(p.From≤x∧x<p.To))∧∀ q∈stepU out p,∀ r∈l,q.From≤r.From:=by
   unfold stepU
   cases hq:out.getLast? with
   |none =>
    have:out=[]:=by simpa using hq
    subst this
    refine ⟨⟨hp,by simp,trivial⟩,fun x=>by simp [Inn],fun q hq r hr=>?_⟩
    simp at hq;subst hq
    exact hs.1 r hr
   |some q =>
    obtain ⟨ys,rfl⟩:=List.getLast?_eq_some_iff.1 hq
    have hqm:=hol q (by simp) p (by simp)
    obtain ⟨n1,n2,n3⟩:=qo.1 ho
    simp only [List.dropLast_concat]
    split
    ·rename_i hle
     have n4:=n2.1
     refine ⟨qo.2 ⟨n1,⟨by show q.From<max q.To p.To;omega,by simp,trivial⟩,fun a ha b hb=>?_⟩,fun x=>?_,fun a ha r hr=>?_⟩
     ·simp at hb;subst hb
      exact n3 a ha q (by simp)
     ·simp only [qi,qj,qm,or_false]
      constructor
      ·rintro (h|h)
       ·exact .inl (.inl h)
       ·by_cases hx:x<q.To
        ·exact .inl (.inr ⟨h.1,hx⟩)
        ·exact .inr ⟨by omega,by have:=h.2;first|omega|(simp only at this;omega)⟩
      ·rintro ((h|h)|h)
       ·exact .inl h
       ·exact .inr ⟨h.1,by first|omega|(simp only;omega)⟩
       ·exact .inr ⟨by first|omega|(simp only;omega),by first|omega|(simp only;omega)⟩
     ·simp only [List.mem_append,List.mem_singleton] at ha
      rcases ha with ha|ha
      ·exact hol a (by simp [ha]) r (by simp [hr])
      ·subst ha
       exact hol q (by simp) r (by simp [hr])
    ·rename_i hle
     refine ⟨qo.2 ⟨ho,⟨hp,by simp,trivial⟩,fun a ha b hb=>?_⟩,fun x=>?_,fun a ha r hr=>?_⟩
     ·simp at hb;subst hb
      simp only [List.mem_append,List.mem_singleton] at ha
      rcases ha with ha|ha
      ·have:=n3 a ha q (by simp)
       have:=n2.1
       omega
      ·subst ha;omega
     ·simp only [qi,qj,qm,or_false]
     ·simp only [List.mem_append,List.mem_singleton] at ha
      rcases ha with ha|ha
      ·exact hol a (by simpa using ha) r (by simp [hr])
      ·subst ha
       exact hs.1 r hr
  obtain ⟨k1,k2,k3⟩:=key
  obtain ⟨m1,m2⟩:=qju l (stepU out p) (fun r hr=>hl r (by simp [hr])) hs.2 k1 k3
  refine ⟨m1,fun x=>?_⟩
  show Inn (mergeU (stepU out p) l) x ↔ _
  rw [m2,k2,qj,or_assoc]
def gp (til len:Int):Int→List Pd→List Pd
 |at',[]=>if len≤til - at' then [⟨at',til⟩] else []
 |at',p::l=>(if len≤min p.From til - at' then [⟨at',min p.From til⟩] else [])++gp til len (max at' p.To) l
theorem qtr (out:List Pd) (p:Pd):(stepU out p).length≤out.length+1:=by
 unfold stepU
 cases hq:out.getLast? with
 |none=>simp
 |some q =>
  obtain ⟨ys,rfl⟩:=List.getLast?_eq_some_iff.1 hq
  simp only [List.dropLast_concat]
  split <;> simp
theorem qxb (l:List Pd) (hn:l.length≤1000000000):∀ (m k:Nat) (b:List Pd),k+m=l.length→b.length≤k →
  qx5 b.length l l.length k b=some (((mergeU b (l.drop k)).length,l,(l.length:Int),(l.length:Int),false),mergeU b (l.drop k)):=by
 intro m
 induction m with
 |zero =>
  intro k b hk hb
  have:k=l.length:=by omega
  subst this
  refine qx6 ?_
  simp only [qxa,q5n,qfl,EC.decL_encL,EC.isL_encL,EC.encL_length,qgv,q2i,q1l,q1x,qr7,q11y,q11d,q11e,q10j,q10m,q13m,q13l,q13n]
  simp [mergeU]
 |succ m ih =>
  intro k b hk hb
  have hlt:k<l.length:=by omega
  have hk':(k:Int)<(l.length:Int):=by omega
  have hs:=qtr b l[k]
  have h1:=ih (k+1) (stepU b l[k]) (by omega) (by omega)
  have e:mergeU b (l.drop k)=mergeU (stepU b l[k]) (l.drop (k+1)):=by rw [qa0 hlt];rfl
  rw [e]
  refine qx6 ?_
  cases hq:b.getLast? with
  |none =>
   have:b=[]:=by simpa using hq
   subst this
   have e1:stepU [] l[k]=[l[k]]:=rfl
   rw [e1] at h1 ⊢
   have hw:IntKind.i64.wrap (((0:Nat):Int) - 1)=-1:=rfl
   simp only [qxa,q5n,qfl,EC.decL_encL,EC.isL_encL,EC.encL_length,qgv,q2i,q1l,q1x,qr7,q11y,q11d,q11e,q10j,q10m,q13m,q13l,q13n,Int.toNat_natCast,qfo hlt,List.length_nil,hw,qy6 hlt (show l.length≤9223372036854775807 by omega)]
   have e2:({ From:=l[k].From,To:=l[k].To }:Pd)=l[k]:=rfl
   simp only [e2,List.nil_append]
   simp only [List.length_cons,List.length_nil] at h1
   simp only [Nat.zero_add] at h1
   simp [hlt]
   rw [←h1]
   norm_cast
  |some q =>
   obtain ⟨ys,rfl⟩:=List.getLast?_eq_some_iff.1 hq
   simp only [List.length_append,List.length_cons,List.length_nil] at hb
   have hw:IntKind.i64.wrap ((((ys++[q]).length:Nat):Int) - 1)=(ys.length:Int):=by
    rw [qy5 (by simp) (by simp;omega)];simp
   have hyl:ys.length<(ys++[q]).length:=by simp
   have hg:(ys++[q])[ys.length]'hyl=q:=by simp
   simp only [qxa,q5n,qfl,EC.decL_encL,EC.isL_encL,EC.encL_length,qgv,q2i,q1l,q1x,qr7,q11y,q11d,q11e,q10j,q10m,q13m,q13l,q13n,Int.toNat_natCast,qfo hlt,hw,qy6 hlt (show l.length≤9223372036854775807 by omega),qfo hyl,hg,len_40 _ _ hyl,q11z _ _ hyl]
   have c1:(ys.length:Int)<(((ys++[q]).length:Nat):Int):=by omega
   by_cases hle:l[k].From≤q.To
   ·have e1:stepU (ys++[q]) l[k]=ys++[⟨q.From,max q.To l[k].To⟩]:=by simp [stepU,hle]
    have e2:(ys++[q]).set ys.length ⟨q.From,if q.To<l[k].To then l[k].To else q.To⟩=ys++[⟨q.From,max q.To l[k].To⟩]:=by
     rw [List.set_append_right _ _ (Nat.le_refl _)]
     have:(if q.To<l[k].To then l[k].To else q.To)=max q.To l[k].To:=by split <;> omega
     simp [this]
    have e3:(ys++[(⟨q.From,max q.To l[k].To⟩:Pd)]).length=(ys++[q]).length:=by simp
    rw [e1] at h1 ⊢
    rw [e3] at h1
    simp only [hle,hk',hlt,hyl,c1,if_true,decide_true,Bool.and_self,Int.natCast_nonneg,e2,h1,ge_iff_le,beq_self_eq_true]
   ·have e1:stepU (ys++[q]) l[k]=ys++[q]++[l[k]]:=by simp [stepU,hle]
    have e2:({ From:=l[k].From,To:=l[k].To }:Pd)=l[k]:=rfl
    have e3:(ys++[q]++[l[k]]).length=(ys++[q]).length+[[C.int IntKind.i64 l[k].From,C.int IntKind.i64 l[k].To]].length:=by simp
    have e4:(((ys++[q]).length+[[C.int IntKind.i64 l[k].From,C.int IntKind.i64 l[k].To]].length)+((ys++[q]).length+[[C.int IntKind.i64 l[k].From,C.int IntKind.i64 l[k].To]].length) / 4+192)*16≤281474976710656:=by simp;omega
    have e5:(ys++[q]).length+[[C.int IntKind.i64 l[k].From,C.int IntKind.i64 l[k].To]].length≤9223372036854775807:=by simp;omega
    rw [e1] at h1 ⊢
    rw [e3] at h1
    simp only [hle,hk',hlt,hyl,c1,if_true,decide_true,decide_false,Bool.and_self,Int.natCast_nonneg,e2,h1,ge_iff_le,beq_self_eq_true,Bool.false_eq_true,if_false,e4,e5,List.all_cons,List.all_nil,List.length_cons,List.length_nil]
    simp only [List.length_append,List.length_cons,List.length_nil,Int.natCast_add,List.append_assoc,List.cons_append,List.nil_append,Nat.zero_add,Int.natCast_one] at h1 ⊢
    simp only [h1]
    simp
    omega
end Go.Proofs.Ytjlkjiifkganoaa
namespace Go.Proofs.Ytjlkjiifkganoaa
set_option linter.unusedSimpArgs false
open Go.Shelf
set_option maxRecDepth 100000
def qix:Go.Shelf.Ren:=⟨fun|189=>42|125=>46|257=>58|128=>67|129=>68|294=>76|295=>77|296=>78|297=>79|298=>80|299=>81|216=>55|300=>82|301=>83|328=>93|329=>85|330=>86|331=>94|332=>95|215=>47|343=>98|n=>n,fun|28=>34|3=>3|46=>85|0=>0|51=>104|53=>106|4=>4|183=>98|182=>97|131=>77|5=>5|9=>9|218=>118|222=>122|228=>129|229=>110|n=>n,fun|n=>n⟩
theorem lays189:Go.Proofs.Lays.n189 Try.prog qix:={
 mixed:=by kernel_rfl
 f125:=Try.func46.trans (congrArg some (by kernel_rfl))
 f128:=Try.func67.trans (congrArg some (by kernel_rfl))
 f129:=Try.func68.trans (congrArg some (by kernel_rfl))
 f189:=Try.func42.trans (congrArg some (by kernel_rfl))
 f215:=Try.func47.trans (congrArg some (by kernel_rfl))
 f216:=Try.func55.trans (congrArg some (by kernel_rfl))
 f257:=Try.func58.trans (congrArg some (by kernel_rfl))
 f294:=Try.func76.trans (congrArg some (by kernel_rfl))
 f295:=Try.func77.trans (congrArg some (by kernel_rfl))
 f296:=Try.func78.trans (congrArg some (by kernel_rfl))
 f297:=Try.func79.trans (congrArg some (by kernel_rfl))
 f298:=Try.func80.trans (congrArg some (by kernel_rfl))
 f299:=Try.func81.trans (congrArg some (by kernel_rfl))
 f300:=Try.func82.trans (congrArg some (by kernel_rfl))
 f301:=Try.func83.trans (congrArg some (by kernel_rfl))
 f328:=Try.func93.trans (congrArg some (by kernel_rfl))
 f329:=Try.func85.trans (congrArg some (by kernel_rfl))
 f330:=Try.func86.trans (congrArg some (by kernel_rfl))
 f331:=Try.func94.trans (congrArg some (by kernel_rfl))
 f332:=Try.func95.trans (congrArg some (by kernel_rfl))
 f343:=Try.func98.trans (congrArg some (by kernel_rfl))
 t0:=Try.underlying0
 a0:=Try.isAgg0
 z0:=Try.sizeOf0
 v0:=Try.zeroValue0
 t3:=Try.underlying3
 a3:=Try.isAgg3
 z3:=Try.sizeOf3
 v3:=Try.zeroValue3
 t4:=Try.underlying4
 a4:=Try.isAgg4
 z4:=Try.sizeOf4
 v4:=Try.zeroValue4
 t5:=Try.underlying5
 a5:=Try.isAgg5
 z5:=Try.sizeOf5
 v5:=Try.zeroValue5
 t9:=Try.underlying9
 a9:=Try.isAgg9
 z9:=Try.sizeOf9
 v9:=Try.zeroValue9
 t28:=Try.underlying34
 a28:=Try.isAgg34
 z28:=Try.sizeOf34
 v28:=Try.zeroValue34
 t46:=Try.underlying85
 a46:=Try.isAgg85
 z46:=Try.sizeOf85
 v46:=Try.zeroValue85
 t51:=Try.underlying104
 a51:=Try.isAgg104
 z51:=Try.sizeOf104
 v51:=Try.zeroValue104
 t53:=Try.underlying106
 a53:=Try.isAgg106
 z53:=Try.sizeOf106
 v53:=Try.zeroValue106
 t131:=Try.underlying77
 a131:=Try.isAgg77
 z131:=Try.sizeOf77
 v131:=Try.zeroValue77
 t182:=Try.underlying97
 a182:=Try.isAgg97
 z182:=Try.sizeOf97
 v182:=Try.zeroValue97
 t183:=Try.underlying98
 a183:=Try.isAgg98
 z183:=Try.sizeOf98
 v183:=Try.zeroValue98
 t218:=Try.underlying118
 a218:=Try.isAgg118
 z218:=Try.sizeOf118
 v218:=Try.zeroValue118
 t222:=Try.underlying122
 a222:=Try.isAgg122
 z222:=Try.sizeOf122
 v222:=Try.zeroValue122
 t228:=Try.underlying129
 a228:=Try.isAgg129
 z228:=Try.sizeOf129
 v228:=Try.zeroValue129
 t229:=Try.underlying110
 a229:=Try.isAgg110
 z229:=Try.sizeOf110
 v229:=Try.zeroValue110 }
def qiz:Go.Shelf.Ren:=⟨fun|20=>43|n=>n,fun|22=>34|3=>3|4=>4|0=>0|n=>n,fun|n=>n⟩
theorem laysNm220:Go.Proofs.Lays2.n20 Try.prog qiz:={
 mixed:=by kernel_rfl
 f20:=Try.func43.trans (congrArg some (by kernel_rfl))
 t0:=Try.underlying0
 a0:=Try.isAgg0
 z0:=Try.sizeOf0
 v0:=Try.zeroValue0
 t3:=Try.underlying3
 a3:=Try.isAgg3
 z3:=Try.sizeOf3
 v3:=Try.zeroValue3
 t4:=Try.underlying4
 a4:=Try.isAgg4
 z4:=Try.sizeOf4
 v4:=Try.zeroValue4
 t22:=Try.underlying34
 a22:=Try.isAgg34
 z22:=Try.sizeOf34
 v22:=Try.zeroValue34
 i3:=by kernel_rfl }
def qiy:Go.Shelf.Ren:=⟨fun|10=>41|6=>57|n=>n,fun|22=>34|23=>3|25=>56|3=>3|4=>4|0=>0|n=>n,fun|n=>n⟩
theorem laysDelI:Go.Proofs.SlLaysH.n10 Try.prog qiy:={
 mixed:=by kernel_rfl
 f6:=⟨Try.f57.name,by decide,Try.func57.trans (congrArg some (by kernel_rfl))⟩
 f10:=⟨Try.f41.name,by decide,Try.func41.trans (congrArg some (by kernel_rfl))⟩
 t0:=Try.underlying0
 a0:=Try.isAgg0
 z0:=Try.sizeOf0
 v0:=Try.zeroValue0
 t3:=Try.underlying3
 a3:=Try.isAgg3
 z3:=Try.sizeOf3
 v3:=Try.zeroValue3
 t4:=Try.underlying4
 a4:=Try.isAgg4
 z4:=Try.sizeOf4
 v4:=Try.zeroValue4
 t22:=Try.underlying34
 a22:=Try.isAgg34
 z22:=Try.sizeOf34
 v22:=Try.zeroValue34
 a23:=Try.isAgg3
 z23:=Try.sizeOf3
 t25:=Try.underlying56
 a25:=Try.isAgg56
 z25:=Try.sizeOf56
 v25:=Try.zeroValue56 }
end Go.Proofs.Ytjlkjiifkganoaa
namespace Go.Proofs.Ytjlkjiifkganoaa
set_option linter.unusedSimpArgs false
open Go.RowKit Go.Sort
set_option maxRecDepth 100000
section
variable {w0:WB} {Z Y:ZMap} {m:Nat→Option Value} {h:Nat→Option B} {sh:Nat→Bool} {w:World}
theorem qh5 {g:Nat} {w':World} (h:Frm (fun k=>k=g) w w') (hg:g<w.heap.size):∃ w1,Wr g w w1∧Bel w1 w'∧w1.heap[g]?=w'.heap[g]?:=by
 have hg':g<w'.heap.size:=Nat.lt_of_lt_of_le hg h.size
 refine ⟨{ w' with heap:=w.heap.setIfInBounds g w'.heap[g] },⟨h.os,h.tape,h.output,by simp,fun k hk=>?_⟩,⟨rfl,rfl,rfl,by simpa using h.size,fun k hk=>?_⟩,?_⟩
 ·show (w.heap.setIfInBounds g w'.heap[g])[k]?=_
  rw [Array.getElem?_setIfInBounds_ne (Ne.symm hk)]
 ·show w'.heap[k]?=(w.heap.setIfInBounds g w'.heap[g])[k]?
  have hk:k<w.heap.size:=by simpa using hk
  by_cases e:k=g
  ·subst e
   rw [Array.getElem?_setIfInBounds_self_of_lt hg,Array.getElem?_eq_getElem hg']
  ·rw [Array.getElem?_setIfInBounds_ne (Ne.symm e)]
   exact h.block k hk (fun e2=>e e2)
 ·show (w.heap.setIfInBounds g w'.heap[g])[g]?=_
  rw [Array.getElem?_setIfInBounds_self_of_lt hg,Array.getElem?_eq_getElem hg']
end
theorem jargs1 {cargs:Array Value} (hs:cargs.size=1):cargs=#[cargs.getD 0 undef]:=by
 apply Array.ext (by simpa using hs)
 intro i h1 h2
 have:i=0:=by omega
 subst this
 simp [Array.getD,h1]
theorem qh7 {α:Type} (f:Nat→α) (i:Nat) (a b:α):upd (upd f i a) i b=upd f i b:=by funext j;unfold upd;split <;> rfl
theorem qh6 {α:Type} {f:Nat→α} {i:Nat} {a:α} (h:f i=a):upd f i a=f:=by funext j;unfold upd;split <;> simp_all
theorem qgl:∀ {es:List (List C)},es.all intB=true→∃ l:List Int,es=l.map encI1
 |[],_=>⟨[],rfl⟩
 |e::es,h=>by
  rw [List.all_cons,Bool.and_eq_true] at h
  obtain ⟨l,rfl⟩:=qgl h.2
  have h1:=h.1
  unfold intB at h1
  split at h1
  ·rename_i n;exact ⟨n::l,rfl⟩
  ·cases h1
theorem qtc (l:List Int):srtL (l.map encI1)=(l.mergeSort leI).map encI1:=by
 unfold srtL
 rw [List.map_map]
 congr 2
 have:intE ∘ encI1=id:=rfl
 rw [this,List.map_id]
structure RowI (w:World) (g n c:Nat) (l:List Int):Prop where
 ex:∃ t fz cur,w.heap[g]?=some (.cells cur t fz)∧cur.size=c∧(∀ o,o<cur.size→¬ (fz.1≤o∧o<fz.2))∧fz.1≤fz.2∧∀ (i:Nat) (x:Int),l[i]?=some x→cur[i]?=some (.int .i64 x)
 len:l.length=n
 le:n≤c
 max:c≤maxLen
theorem RowI.lt {w:World} {g n c:Nat} {l:List Int} (h:RowI w g n c l):g<w.heap.size:=by
 obtain ⟨⟨t,fz,cur,hv,hr⟩,_⟩:=h
 exact qg1 hv
theorem RowI.same {w w':World} {g n c:Nat} {l:List Int} (h:RowI w g n c l) (hb:w'.heap[g]?=w.heap[g]?):RowI w' g n c l:=by
 obtain ⟨⟨t,fz,cur,hv,hr⟩,h1,h2,h3⟩:=h
 exact ⟨⟨t,fz,cur,hb.trans hv,hr⟩,h1,h2,h3⟩
theorem RowI.holds {w:World} {g n c:Nat} {l:List Int} (h:RowI w g n c l):Holds (Value.int .i64) w g 0 l.toArray:=by
 obtain ⟨⟨t,fz,cur,hv,hs,hf,hfz,hc⟩,hl,hle,hm⟩:=h
 intro j hj
 have hj':j<l.length:=by simpa using hj
 refine ⟨?_,?_⟩
 ·simp only [World.cell?,hv,Nat.zero_add]
  rw [getElem!_pos l.toArray j hj]
  simpa using hc j _ (List.getElem?_eq_getElem hj')
 ·obtain ⟨lo,hi⟩:=fz
  have:=hf j (by omega)
  simp only [World.frozen?,hv,Nat.zero_add]
  simp only [Bool.and_eq_false_iff,decide_eq_false_iff_not]
  simp only at this
  omega
theorem qp6 {w:World} {base:Nat→Prop} {Z:ZMap} {s:Bool} {g n c:Nat} {l:List Int} (hat:RowAt base Z s w g n c 1 (l.map encI1)):RowI w g n c l:=by
 obtain ⟨t,fz,cur,hv,hcs,⟨hf,_,hfz⟩,hcell⟩:=hat.ex
 refine ⟨⟨t,fz,cur,hv,by omega,hf,hfz,fun i x hx=>?_⟩,by simpa using hat.len,hat.le,hat.max⟩
 have he:(l.map encI1)[i]?=some (encI1 x):=by rw [List.getElem?_map,hx];rfl
 obtain ⟨u0,a0,b0⟩:=hcell i _ 0 _ he rfl
 cases b0
 simpa using a0
theorem qp5 {w:World} {base:Nat→Prop} {Z:ZMap} {s:Bool} {g n c:Nat} {l:List Int} (h:RowI w g n c l) (hb:base g) (hZ:∀ o,Z g o=none) (hl:l≠[]):RowAt base Z s w g n c 1 (l.map encI1):=by
 obtain ⟨⟨t,fz,cur,hv,hcs,hf,hfz,hc⟩,hln,hle,hmx⟩:=h
 have hn:n≠0:=fun e=>hl (List.eq_nil_of_length_eq_zero (hln.trans e))
 refine ⟨hb,⟨t,fz,cur,hv,by omega,⟨hf,fun e=>absurd rfl e,hfz⟩,fun i e j x he hx=>?_⟩,by simpa using hln,hle,hmx,by decide,fun e=>absurd e hn,fun e he=>?_,fun o ho=>absurd (hZ o) ho⟩
 ·rw [List.getElem?_map] at he
  cases hy:l[i]? with
  |none=>rw [hy] at he;cases he
  |some y =>
   rw [hy] at he
   injection he with he
   subst he
   match j with
   |0=>simp [encI1] at hx;subst hx;exact ⟨_,by simpa using hc i y hy,.int _ _⟩
   |j+1=>simp [encI1] at hx
 ·obtain ⟨y,_,rfl⟩:=List.mem_map.1 he
  rfl
theorem qt0 {w:World} {g n c:Nat} {l:List Int} (h:RowI w g n c l) (hb:l.length<4611686018427387904):Calls Try.prog 42 #[.slice (some ⟨g,0,none⟩) n c] w fun e w'=>e=.returned (.tuple #[])∧Frm (fun k=>k=g) w w'∧RowI w' g n c (l.mergeSort leI):=by
 have hcon:=Any.slices_Sort_int lays189 g 0 c l w h.holds h.lt hb
 rw [h.len] at hcon
 refine hcon.mono ?_
 rintro e w' ⟨rfl,q,os,rfl⟩
 obtain ⟨⟨t,fz,cur,hv,hcs,hf,hfz,hc⟩,hln,hle,hmx⟩:=h
 have hgb:=grownBy_sortedI (w:=w) (g:=g) (n:=q) (os:=os) (l.mergeSort leI).toArray
 have hhp:=heap_sortedI (n:=q) (os:=os) (l.mergeSort leI).toArray hv
 refine ⟨rfl,?_,⟨⟨t,fz,_,hhp,by simp [putCells,hcs],by simpa [putCells] using hf,hfz,fun i x hx=>?_⟩,by rw [List.length_mergeSort];exact hln,hle,hmx⟩⟩
 ·obtain ⟨a1,a2,a3,a4,a5⟩:=hgb
  exact ⟨a1,a2,a3,a4,fun k hk hne=>a5 k hk (fun e=>hne (by cases e;rfl))⟩
 ·have hi:=(List.getElem?_eq_some_iff.1 hx).1
  have hi2:i<cur.size:=by rw [List.length_mergeSort] at hi;omega
  unfold putCells
  rw [Array.getElem?_mapIdx,Array.getElem?_eq_getElem hi2]
  simp only [Option.map_some,Nat.zero_le,true_and,Nat.zero_add,Nat.sub_zero,List.size_toArray]
  rw [if_pos hi,getElem!_pos _ i (by simpa using hi)]
  rw [List.getElem?_eq_getElem hi] at hx
  injection hx with hx
  simp [hx]
theorem qtd (st:St) (vs:List V) (s1:St) (h:srtX.run (List V×St) st some=some (vs,s1)):RuleOk Try.prog 42 1 st vs s1:=by
 unfold srtX at h
 simp only at h
 split at h
 case h_2=>cases h
 rename_i id n e0
 split at h
 case h_2=>cases h
 rename_i es hes
 cases hsh:st.sh id with
 |true=>rw [hsh] at h;cases h
 |false =>
 rw [hsh,cond_false] at h
 obtain ⟨hg,h⟩:=qfm h
 simp only [Bool.and_eq_true,decide_eq_true_eq] at hg
 obtain ⟨l,rfl⟩:=qgl hg.1
 have hsz:l.length≤1000000:=by simpa using hg.2
 have h':(vs,s1)=(([]:List V),{ st with h:=upd st.h id (some (.row (srtL (l.map encI1)))) }):=(Option.some.inj h).symm
 injection h' with h1 h2
 subst h1 h2
 rw [qtc]
 intro G w0 w Z Y m cargs R hm hG hs hr
 have r0:=hr 0
 rw [e0] at r0
 rw [jargs1 hs]
 generalize cargs.getD 0 undef=u0 at r0
 have nil0:∀ A,u0=.slice A 0 0→l=[]→Calls Try.prog 42 #[u0] w fun e w'=>∃ cv Z' m',e=.returned cv∧ZUp w0 Z Z'∧Rel w0 Z' Y m' (upd st.h id (some (.row ((l.mergeSort leI).map encI1)))) st.sh w'∧Rep Z' Y m' cv (oneOrTup [])∧(∀ (i id:Nat) (u:Value),st.og[i]?=some id→G i=some u→m' id=some u)∧∀ i,m' i≠none→i<st.nx:=by
  rintro A rfl rfl
  refine (Any.slices_Sort_int_none lays189 A 0 w).mono ?_
  rintro e w' ⟨rfl,rfl⟩
  have e1:(([]:List Int).mergeSort leI).map encI1=([]:List Int).map encI1:=by simp
  rw [e1,qh6 hes]
  exact ⟨_,Z,m,rfl,ZUp.refl,R,.tup _ _ rfl (by simp),hG,hm⟩
 have row0:∀ g c k,u0=.slice (some ⟨g,0,none⟩) n c→m id=some u0→RowAt w0.own Z (st.sh id) w g n c k (l.map encI1)→l≠[]→Calls Try.prog 42 #[u0] w fun e w'=>∃ cv Z' m',e=.returned cv∧ZUp w0 Z Z'∧Rel w0 Z' Y m' (upd st.h id (some (.row ((l.mergeSort leI).map encI1)))) st.sh w'∧Rep Z' Y m' cv (oneOrTup [])∧(∀ (i id:Nat) (u:Value),st.og[i]?=some id→G i=some u→m' id=some u)∧∀ i,m' i≠none→i<st.nx:=by
  rintro g c k rfl hmi hat hl
  have hk:k=1:=by
   obtain ⟨x,xs,rfl⟩:=List.exists_cons_of_ne_nil hl
   exact (hat.each (encI1 x) (by simp)).symm
  subst hk
  have hri:=qp6 hat
  have hZ:∀ o,Z g o=none:=fun o=>by
   cases hz:Z g o with
   |none=>rfl
   |some u=>have:=(hat.apart o (by rw [hz];simp)).1;rw [hsh] at this;cases this
  refine (qt0 hri (by omega)).mono ?_
  rintro e w' ⟨rfl,hF,hr'⟩
  obtain ⟨w1,hW,hB,hE⟩:=qh5 hF hri.lt
  have hne:l.mergeSort leI≠[]:=fun e=>hl (by have:=congrArg List.length e;rw [List.length_mergeSort] at this;exact List.eq_nil_of_length_eq_zero this)
  have hat2:=qp5 (s:=st.sh id) (hr'.same hE) hat.base hZ hne
  have hRw:=R.write (base:=id) (b':=.row ((l.mergeSort leI).map encI1)) (v:=.slice (some ⟨g,0,none⟩) n c) (sh':=st.sh) hes (by simp [blkOf,hmi]) hW (.inl rfl) (fun _ _ _ _=>rfl) (fun o u hz=>by rw [hZ o] at hz;cases hz) (fun _=>hmi) (.inr (.inl ⟨_,n,c,1,rfl,rfl,hat2⟩))
  rw [qh6 hmi,qh7] at hRw
  exact ⟨_,Z,m,rfl,ZUp.refl,hRw.later hB,.tup _ _ rfl (by simp),hG,hm⟩
 cases r0 with
 |row _ _ A c hmi hA =>
  rcases R.row id _ hes with ⟨h0,he⟩|⟨g,n',c',k,hm',hat⟩
  ·rw [hmi] at h0
   injection h0 with h0;injection h0 with a1 a2 a3
   subst a1 a2 a3
   exact nil0 _ rfl (List.map_eq_nil_iff.1 he)
  ·rw [hmi] at hm'
   injection hm' with hm';injection hm' with a1 a2 a3
   subst a1 a2 a3
   by_cases hl:l=[]
   ·have h0:n=0:=by have:=hat.len;rw [hl] at this;simpa using this.symm
    have hc:=hat.zero h0
    subst h0 hc
    exact nil0 _ rfl hl
   ·exact row0 g c k rfl hmi hat hl
 |row0 _ A hmi =>
  rcases R.row id _ hes with ⟨h0,he⟩|⟨g,n',c',k,hm',hat⟩
  ·exact nil0 _ rfl (List.map_eq_nil_iff.1 he)
  ·rw [hmi] at hm';cases hm'
end Go.Proofs.Ytjlkjiifkganoaa
namespace Go.Proofs.Ytjlkjiifkganoaa
set_option linter.unusedSimpArgs false
open Go.RowKit
theorem gw_bel {w w':World} (h:GW w) (hb:Bel w w'):GW w':=BelA.gw (qxr.2 hb) ⟨h,GB.no⟩
set_option maxHeartbeats 400000 in
set_option maxRecDepth 4000 in
theorem q7p (w:World):Calls Try.prog 26 #[.slice none 0 0] w fun e w'=>e=.returned (.slice none 0 0)∧w=w':=by
 have hz:∀ w:World,(binOp .eql 24 (.slice none 0 0) (.slice none 0 0)).run Try.prog w=.ok (.bool true) w:=fun w=>Lib.run_eql_slice_nil w _ _ _ _ _ _ _ Try.underlying24
 go_enter Try.func26,Try.ntmps26
 go_wp2
 go_ret
 exact ⟨rfl,rfl⟩
theorem q7r {f:FuncId} (hnil:∀ w,Calls Try.prog f #[.slice none 0 0] w fun e w'=>e=.returned (.slice none 0 0)∧w=w') (c2:CallOk Try.prog f [.c .ne] (.row 0 0,[.row []])):CallOk Try.prog f [.c (.sl [])] (.row 0 0,[.row []]):=by
 refine ⟨c2.1,c2.2.1,fun w Z Y cargs hG hZ hY hs hr=>?_⟩
 have hs1:cargs.size=1:=hs
 obtain ⟨u,hu⟩:∃ u,cargs[0]?=some u:=⟨cargs[0]'(by omega),Array.getElem?_eq_getElem _⟩
 have r0:=hr 0 u _ hu rfl
 cases r0 with
 |c r0 =>
 have one:∀ y:C,RepC Z u y→∀ (i:Nat) u' x,cargs[i]?=some u'→[V.c y][i]?=some x→Rep Z Y noM u' x:=by
  intro y hy i u' x h1 h2
  cases i with
  |zero =>
   rw [hu] at h1
   injection h1 with h1;subst h1
   simp at h2;subst h2
   exact .c hy
  |succ i=>simp at h2
 cases r0 with
 |sl A n c k b off U es hl hc hm hk hA hz hr' hN =>
  have hl':n=0:=by simpa using hl.symm
  subst hl'
  cases A with
  |none =>
   have:=hN rfl
   subst this
   obtain rfl:cargs=#[.slice none 0 0]:=by
    apply Array.ext (by simpa using hs1)
    intro i h1 h2
    have:i=0:=by simp at h2;omega
    subst this
    rw [Array.getElem?_eq_getElem h1] at hu
    injection hu
   refine (hnil w).mono fun e w'=>?_
   rintro ⟨rfl,rfl⟩
   refine ⟨_,Z,fun i=>if i=0 then some (.slice none 0 0) else none,rfl,ZUp.refl,⟨qxr.2 (Bel.refl _),⟨hG,GB.no⟩,hZ,(fun _ _ _ h=>by cases h),?_,?_,?_,?_,?_⟩,.row 0 0 none 0 (by simp) (by simp),?_⟩
   ·intro id cs h
    cases id <;> simp at h
   ·intro id es h
    cases id with
    |zero=>simp at h;subst h;exact .inl ⟨by simp,rfl⟩
    |succ id=>simp at h
   ·intro id es q v h
    cases id <;> simp at h
   ·intro id l h
    cases id <;> simp at h
   ·intro id id' g _ _ h
    unfold blkOf at h
    by_cases h0:id=0 <;> simp [h0] at h
   ·intro i h
    by_cases h0:i=0
    ·subst h0;simp
    ·simp [h0] at h
  |some a=>exact c2.2.2 w Z Y cargs hG hZ hY hs (one .ne (.ne a c hm))
theorem qjz:Try.prog.follows .mixedOrders=true:=by kernel_rfl
theorem q7s {f:FuncId} (hf:clones.contains f=true):CallOk Try.prog f [.c (.sl [])] (.row 0 0,[.row []]):=by
 have h:f∈clones:=by simpa using hf
 clear hf
 unfold clones at h
 repeat
  rcases h with _|⟨_,h⟩
  ·first
    |fail
    |exact q7r q7p (q9 Try.prog lv ⟨fun _ _=>none,fun _=>none⟩ qjz ⟨fun _ _ _ h=>by (cases h),fun _ _ _ _ _ h=>by (cases h)⟩ (q7 (n:=30) (by kernel_rfl)))
 cases h
theorem X0c_ok:∀ f args r,X0c f args=some r→CallOk Try.prog f args r:=by
 intro f args r h
 unfold X0c at h
 cases hf:clones.contains f with
 |true =>
  rw [hf,cond_true] at h
  split at h
  case h_2=>cases h
  injection h with h
  subst h
  exact q7s hf
 |false =>
 rw [hf,cond_false] at h
 cases h
theorem X0_ok:XOk Try.prog X0:=by
 refine ⟨X0c_ok,fun f R st vs s1 hf0 h=>?_⟩
 have hf:X0h f=some R:=hf0
 clear hf0
 unfold X0h at hf
 cases h1:f==42 with
 |true =>
  rw [h1,cond_true] at hf
  injection hf with hR
  have hf':f=42:=by simpa using h1
  subst hR
  subst hf'
  exact qtd st vs s1 h
 |false =>
 rw [h1,cond_false] at hf
 clear h1
 cases hf
section
variable {P:Program} {live:FuncId→Nat→List Nat} {X:XT}
theorem qe (hmo:P.follows .mixedOrders=true) (hX:XOk P X) {f:FuncId} {nt:Nat} {c:Code} {s:St} {r:Nat×St} (h:Exec P live X f nt c s=some r) (Y:ZMap) (w0:WB):CodeOk P Y w0 nt c s r:=by
 obtain ⟨N,hN⟩:=qg P live X h
 exact (qbu hmo hX N f nt c s r Y w0 (hN N (Nat.le_refl _))).1
theorem lS_ok (hmo:P.follows .mixedOrders=true) (hX:XOk P X) {σ ω:Type} {f nt:Nat} {c:Code} {s:SC σ} {o:OC ω} {x:σ} {r:ω} (h:lS P live X f nt c s o x=some r)
  (hc:canon (headOf live f c) (headS live f c (s.c.enc x).st)=(s.c.enc x).st) (Y:ZMap) (w0:WB):CodeOk P Y w0 nt (.loop c) (s.c.enc x).st ((o.enc r).1,(o.enc r).2.st):=by
 refine qe (live:=live) hmo hX (f:=f) ?_ Y w0
 apply qh
 rw [qtk,hc]
 exact qho h
end
end Go.Proofs.Ytjlkjiifkganoaa
