/- Small laws that plain proofs over extracted functions use. -/
import Derived.Test.YtfakibajjibjjaaGreatDoorGB
import Derived.Test.YtfakibajjibjjaaGreatDoorH1
namespace Go.Proofs.YtfakibajjibjjaaGreatDoor
set_option linter.unusedSimpArgs false
open Go.RowKit
theorem q77 {β:Type} (q:Bool) (a b:Option β):brE q a b=if q=true then a else b:=by cases q <;> rfl
theorem qit {β:Type} (q:Bool) (a:Option β):gdE q a=if q=true then a else none:=by cases q <;> rfl
theorem q6o (q:Bool):(q==true)=q:=by cases q <;> rfl
theorem q6n (q:Bool):(q==false)=!q:=by cases q <;> rfl
theorem qo {τ:Type} (e:EC τ) (xs:List τ) (n:Nat):(e.encL xs).take n=e.encL (xs.take n):=by simp [EC.encL,List.map_take]
theorem ql {τ:Type} (e:EC τ) (xs:List τ) (n:Nat):(e.encL xs).drop n=e.encL (xs.drop n):=by simp [EC.encL,List.map_drop]
theorem qk {τ:Type} (e:EC τ) (xs ys:List τ):e.encL xs++e.encL ys=e.encL (xs++ys):=by simp [EC.encL]
theorem qn {τ:Type} (e:EC τ):e.decL []=[]:=rfl
theorem qm {τ:Type} (e:EC τ) (xs:List τ):(e.encL xs).isEmpty=xs.isEmpty:=by cases xs <;> rfl
theorem qcv {α:Type} {l:List α} {k:Nat} (h:k<l.length):l.drop k=l[k]::l.drop (k+1):=List.drop_eq_getElem_cons h
theorem q12x {α:Type} {l:List α} {k:Nat} (h:k<l.length):l.take (k+1)=l.take k++[l[k]]:=by rw [List.take_add_one,List.getElem?_eq_getElem h];rfl
theorem q15g {k n:Nat} (h:k<n) (hn:n≤9223372036854775807):IntKind.i64.wrap ((k:Int)+1)=((k+1:Nat):Int):=by rw [IntWalk.i64_in _ (by omega)];rfl
theorem q15f {x:Int} (h0:-9223372036854775808≤x) (h1:x≤9223372036854775807):IntKind.i64.wrap x=x:=IntWalk.i64_in _ (by omega)
theorem qiw {α:Type} {l:List α} {k:Nat} {d:α} (h:k<l.length):l.getD k d=l[k]:=by simp [List.getD_eq_getElem?_getD,h]
theorem qzu {α β:Type} {x:Option α} {f:α→Option β} {b:β} (h:x.bind f=some b):∃ a,x=some a∧f a=some b:=by
 cases x with
 |none=>cases h
 |some a=>exact ⟨a,rfl,h⟩
def gidx {α:Type} (p:α→Bool) (k:Nat):List α→Int
 |[]=>-1
 |g::l=>if p g then (k:Int) else gidx p (k+1) l
theorem qj3 {α:Type} (p:α→Bool):∀ (l:List α) (k:Nat),(gidx p k l=-1∧∀ x∈l,p x=false)∨∃ (i:Nat) (h:i<l.length),gidx p k l=((k+i:Nat):Int)∧p l[i]=true∧∀ x∈l.take i,p x=false
 |[],k=>.inl ⟨rfl,by simp⟩
 |g::l,k=>by
  cases hp:p g with
  |true=>exact .inr ⟨0,by simp,by simp [gidx,hp],by simpa using hp,by simp⟩
  |false =>
   rcases qj3 p l (k+1) with ⟨h1,h2⟩|⟨i,hi,h1,h2,h3⟩
   ·exact .inl ⟨by simp [gidx,hp,h1],fun x hx=>by rcases List.mem_cons.1 hx with e|e;exact e ▸ hp;exact h2 x e⟩
   ·refine .inr ⟨i+1,by simpa using hi,by simp only [gidx,hp,Bool.false_eq_true,if_false,h1];congr 1;omega,by simpa using h2,fun x hx=>?_⟩
    rw [List.take_succ_cons] at hx
    rcases List.mem_cons.1 hx with e|e
    ·exact e ▸ hp
    ·exact h3 x e
end Go.Proofs.YtfakibajjibjjaaGreatDoor
namespace Go.Proofs.YtfakibajjibjjaaGreatDoor
set_option linter.unusedSimpArgs false
open Go.RowKit
abbrev Pd:=S24
def badP (p:Pd):Bool:=decide (p.To≤p.From)
theorem q13a (a b:Int):ubad_s a b=some (decide (b≤a)):=q139 (by simp [ubad_t,ge_iff_le])
theorem qms (xs:List Pd) (n:Nat) (h:n<xs.length):isP [.int .i64,.int .i64] 0 ((qde.encL xs).getD n [])=true:=by rw [EC.getD_lt _ _ h];rfl
theorem qmr (xs:List Pd) (n:Nat) (h:n<xs.length):isP [.int .i64] 1 ((qde.encL xs).getD n [])=true:=by rw [EC.getD_lt _ _ h];rfl
theorem q142 (l:List Pd) (hn:l.length≤9223372036854775807):∀ (m k:Nat),k+m=l.length →
  (q13u l l.length k).bind (Sum.elim (fun x=>some x.1) (fun _=>some (-1)))=some (gidx badP k (l.drop k)):=by
 intro m
 induction m with
 |zero =>
  intro k hk
  have:k=l.length:=by omega
  subst this
  have h1:q13u l l.length l.length=some (.inr ((l,(),(l.length:Int),(l.length:Int),false),())):=q13w (by
   simp only [q141,q77,qit,EC.decL_encL,EC.isL_encL,EC.encL_length,qmg,q3a,q3b,q29,q2w,qxe,qxd,qxf,qmi,q3c,q2b,q2y,qxg,qmh,q3g,q2a,q2x,qxl]
   simp)
  rw [h1]
  simp [gidx]
 |succ m ih =>
  intro k hk
  have hlt:k<l.length:=by omega
  rw [qcv hlt,gidx]
  have hk':(k:Int)<(l.length:Int):=by omega
  by_cases hp:badP l[k]=true
  ·have h1:q13u l l.length k=some (.inl ((k:Int),())):=q13w (by
    have hp':=hp
    unfold badP at hp'
    simp only [q141,q77,qit,EC.decL_encL,EC.isL_encL,EC.encL_length,qmg,q3a,q3b,q29,q2w,qxe,qxd,qxf,qmi,q3c,q2b,q2y,qxg,qmh,q3g,q2a,q2x,qxl,Int.toNat_natCast,qiw hlt,q13a,Option.bind_some,hp']
    simp [hlt])
   rw [h1,if_pos hp]
   rfl
  ·have h2:=ih (k+1) (by omega)
   cases hz:q13u l l.length ((k+1:Nat):Int) with
   |none=>rw [hz] at h2;cases h2
   |some r =>
    have h1:q13u l l.length k=some r:=q13w (by
     have hp':=hp
     unfold badP at hp'
     simp only [q141,q77,qit,EC.decL_encL,EC.isL_encL,EC.encL_length,qmg,q3a,q3b,q29,q2w,qxe,qxd,qxf,qmi,q3c,q2b,q2y,qxg,qmh,q3g,q2a,q2x,qxl,Int.toNat_natCast,qiw hlt,q13a,Option.bind_some,hp',q15g hlt hn,hz]
     simp [hlt])
    rw [if_neg hp,h1]
    rw [hz] at h2
    exact h2
theorem q143 (l:List Pd) (hn:l.length≤9223372036854775807):uidx_s l=some (gidx badP 0 l):=q13t (by
 have:=q142 l hn l.length 0 (by omega)
 simp only [uidx_t,qit,EC.decL_encL,EC.isL_encL,EC.encL_length,qmg,q3a,q3b,q29,q2w,qxe,qxd,qxf,qmi,q3c,q2b,q2y,qxg,qmh,q3g,q2a,q2x,qxl,if_true]
 exact this)
theorem q13h (l:List Pd) (hn:l.length≤8796093022208):q13g l=some (l.length,l):=by
 cases l with
 |nil=>exact q13f
 |cons x xs =>
  refine q13e ?_
  simp only [q13i,qit,EC.decL_encL,EC.isL_encL,EC.encL_length,qmg,q3a,q3b,q29,q2w,qxe,qxd,qxf,qmi,q3c,q2b,q2y,qxg,qmh,q3g,q2a,q2x,qxl,List.nil_append,qm,Nat.zero_add,List.all_nil]
  simp only [List.length_cons] at hn
  simp
  omega
theorem q13q (n:Nat) (hn:n≤9223372036854775807):∀ (m i j:Nat) (b:List Pd),j+m=n→i≤j→b.length=n→(i<j∨m=0) →
  ∃ b':List Pd,q13k n i j b=some ((n,(),((i+((b.drop j).filter fun p=>!badP p).length:Nat):Int),(n:Int),false),b')∧b'.length=n∧b'.take (i+((b.drop j).filter fun p=>!badP p).length)=b.take i++(b.drop j).filter fun p=>!badP p:=by
 intro m
 induction m with
 |zero =>
  intro i j b hk hi hl _
  have hj:j=n:=by omega
  subst hj
  refine ⟨b,q13l ?_,hl,?_⟩
  ·rw [←hl]
   simp only [q13p,q77,qit,EC.decL_encL,EC.isL_encL,EC.encL_length,qmg,q3a,q3b,q29,q2w,qxe,qxd,qxf,qmi,q3c,q2b,q2y,qxg,qmh,q3g,q2a,q2x,qxl]
   simp
  ·rw [←hl];simp
 |succ m ih =>
  intro i j b hk hi hl hij
  have hj:j<b.length:=by omega
  have hi':i<b.length:=by omega
  rw [qcv hj]
  cases hp:badP b[j] with
  |true =>
   have ef:(b[j]::b.drop (j+1)).filter (fun p=>!badP p)=(b.drop (j+1)).filter fun p=>!badP p:=by rw [List.filter_cons,hp];rfl
   rw [ef]
   obtain ⟨b',h1,h2,h3⟩:=ih i (j+1) b (by omega) (by omega) hl (by omega)
   refine ⟨b',q13l ?_,h2,?_⟩
   ·have hp':=hp
    unfold badP at hp'
    simp only [q13p,q77,qit,EC.decL_encL,EC.isL_encL,EC.encL_length,qmg,q3a,q3b,q29,q2w,qxe,qxd,qxf,qmi,q3c,q2b,q2y,qxg,qmh,q3g,q2a,q2x,qxl,Int.toNat_natCast,qiw hj,qms b j hj,len_24 b j hj,q13a,Option.bind_some,hp',q15g (show j<n by omega) hn,h1]
    have c2:((j:Nat):Int)<(n:Int):=by omega
    simp [hj,c2]
   ·exact h3
  |false =>
   have ef:(b[j]::b.drop (j+1)).filter (fun p=>!badP p)=b[j]::(b.drop (j+1)).filter fun p=>!badP p:=by rw [List.filter_cons,hp];rfl
   rw [ef]
   have hset:(b.set i b[j]).drop (j+1)=b.drop (j+1):=by
    apply List.ext_getElem?
    intro q
    rw [List.getElem?_drop,List.getElem?_drop,List.getElem?_set_ne (by omega)]
   obtain ⟨b',h1,h2,h3⟩:=ih (i+1) (j+1) (b.set i b[j]) (by omega) (by omega) (by simpa using hl) (by omega)
   rw [hset] at h1 h3
   have htake:(b.set i b[j]).take (i+1)=b.take i++[b[j]]:=by
    rw [q12x (by simpa using hi')]
    simp [List.take_set_of_le (Nat.le_refl i)]
   rw [htake] at h3
   have e:i+1+((b.drop (j+1)).filter fun p=>!badP p).length=i+(b[j]::(b.drop (j+1)).filter fun p=>!badP p).length:=by
    rw [List.length_cons];omega
   rw [e] at h1 h3
   refine ⟨b',q13l ?_,h2,?_⟩
   ·have hp':=hp
    unfold badP at hp'
    have hb:({ b[i] with From:=b[j].From,To:=b[j].To }:Pd)=b[j]:=by cases b[j];rfl
    have c1:((i:Nat):Int)<(n:Int):=by omega
    have c2:((j:Nat):Int)<(n:Int):=by omega
    simp only [q13p,q77,qit,EC.decL_encL,EC.isL_encL,EC.encL_length,qmg,q3a,q3b,q29,q2w,qxe,qxd,qxf,qmi,q3c,q2b,q2y,qxg,qmh,q3g,q2a,q2x,qxl,Int.toNat_natCast,qiw hj,qiw hi',qms b j hj,len_24 b j hj,len_24 b i hi',q13a,Option.bind_some,hp',q15g (show j<n by omega) hn,q15g (show i<n by omega) hn,hb,h1]
    simp [hj,hi',c1,c2]
   ·rw [h3,List.append_assoc];rfl
def NF:List Pd→Prop
 |[]=>True
 |p::l=>p.From<p.To∧(∀ q∈l,p.To<q.From)∧NF l
def Inn (l:List Pd) (x:Int):Prop:=∃ p∈l,p.From≤x∧x<p.To
theorem qy (x:Int):Inn [] x ↔ False:=by simp [Inn]
theorem qu (p:Pd) (l:List Pd) (x:Int):Inn (p::l) x ↔ (p.From≤x∧x<p.To)∨Inn l x:=by simp [Inn]
theorem qt (a b:List Pd) (x:Int):Inn (a++b) x ↔ Inn a x∨Inn b x:=by
 induction a with
 |nil=>simp [qy]
 |cons p a ih=>simp only [List.cons_append,qu,ih,or_assoc]
theorem NF_ext:∀ {a b:List Pd},NF a→NF b→(∀ x,Inn a x ↔ Inn b x)→a=b
 |[],[],_,_,_=>rfl
 |[],q::b,_,h,e=>by
  have:=(e q.From).2 ((qu _ _ _).2 (.inl ⟨Int.le_refl _,h.1⟩))
  simp [qy] at this
 |p::a,[],h,_,e=>by
  have:=(e p.From).1 ((qu _ _ _).2 (.inl ⟨Int.le_refl _,h.1⟩))
  simp [qy] at this
 |p::a,q::b,ha,hb,e=>by
  have lo:∀ {p:Pd} {a:List Pd} {x:Int},NF (p::a)→Inn (p::a) x→(p.From≤x∧x<p.To)∨(p.To<x∧Inn a x):=by
   intro p a x h hx
   rcases (qu _ _ _).1 hx with h1|h1
   ·exact .inl h1
   ·obtain ⟨r,hr,h2⟩:=h1
    have:=h.2.1 r hr
    exact .inr ⟨by omega,r,hr,h2⟩
  have hpf:Inn (p::a) p.From:=(qu _ _ _).2 (.inl ⟨Int.le_refl _,ha.1⟩)
  have hqf:Inn (q::b) q.From:=(qu _ _ _).2 (.inl ⟨Int.le_refl _,hb.1⟩)
  have h1:=lo hb ((e _).1 hpf)
  have h2:=lo ha ((e _).2 hqf)
  have ha1:=ha.1
  have hb1:=hb.1
  have ef:p.From=q.From:=by omega
  have et:p.To=q.To:=by
   rcases Int.lt_trichotomy p.To q.To with h|h|h
   ·have:=lo ha ((e p.To).2 ((qu _ _ _).2 (.inl ⟨by omega,h⟩)))
    omega
   ·exact h
   ·have:=lo hb ((e q.To).1 ((qu _ _ _).2 (.inl ⟨by omega,h⟩)))
    omega
  have epq:p=q:=by cases p;cases q;simp_all
  subst epq
  have:a=b:=NF_ext ha.2.2 hb.2.2 fun x=>by
   constructor
   ·intro hx
    obtain ⟨r,hr,h3⟩:=hx
    have h4:=ha.2.1 r hr
    have:=lo hb ((e x).1 ((qu _ _ _).2 (.inr ⟨r,hr,h3⟩)))
    rcases this with h5|h5
    ·omega
    ·exact h5.2
   ·intro hx
    obtain ⟨r,hr,h3⟩:=hx
    have h4:=hb.2.1 r hr
    have:=lo ha ((e x).2 ((qu _ _ _).2 (.inr ⟨r,hr,h3⟩)))
    rcases this with h5|h5
    ·omega
    ·exact h5.2
  rw [this]
theorem q10 {a b:List Pd}:NF (a++b) ↔ NF a∧NF b∧∀ p∈a,∀ q∈b,p.To<q.From:=by
 induction a with
 |nil=>simp [NF]
 |cons p a ih =>
  simp only [List.cons_append,NF,ih,List.mem_append,List.mem_cons]
  constructor
  ·rintro ⟨h1,h2,h3,h4,h5⟩
   exact ⟨⟨h1,fun q hq=>h2 q (.inl hq),h3⟩,h4,fun r hr q hq=>hr.elim (fun e=>e ▸ h2 q (.inr hq)) (fun hr=>h5 r hr q hq)⟩
  ·rintro ⟨⟨h1,h2,h3⟩,h4,h5⟩
   exact ⟨h1,fun q hq=>hq.elim (h2 q) (fun hq=>h5 p (.inl rfl) q hq),h3,h4,fun r hr=>h5 r (.inr hr)⟩
def stepU (out:List Pd) (p:Pd):List Pd :=
 match out.getLast? with
 |some q=>if p.From≤q.To then out.dropLast++[⟨q.From,max q.To p.To⟩] else out++[p]
 |none=>[p]
def mergeU (out:List Pd) (l:List Pd):List Pd:=l.foldl stepU out
def SortedF:List Pd→Prop
 |[]=>True
 |p::l=>(∀ q∈l,p.From≤q.From)∧SortedF l
theorem qsg:∀ (l out:List Pd),(∀ p∈l,p.From<p.To)→SortedF l→NF out→(∀ q∈out,∀ p∈l,q.From≤p.From)→NF (mergeU out l)∧∀ x,Inn (mergeU out l) x ↔ Inn out x∨Inn l x
 |[],out,_,_,ho,_=>⟨ho,fun x=>by simp [mergeU,qy]⟩
 |p::l,out,hl,hs,ho,hol=>by
  have hp:=hl p (by simp)
  have key:NF (stepU out p)∧(∀ x,Inn (stepU out p) x ↔ Inn out x∨(p.From≤x∧x<p.To))∧∀ q∈stepU out p,∀ r∈l,q.From≤r.From:=by
   unfold stepU
   cases hq:out.getLast? with
   |none =>
    have:out=[]:=by simpa using hq
    subst this
    refine ⟨⟨hp,by simp,trivial⟩,fun x=>by simp [Inn],fun q hq r hr=>?_⟩
    simp at hq;subst hq
    exact hs.1 r hr
   |some q =>
    obtain ⟨ys,rfl⟩:=List.getLast?_eq_some_iff.1 hq
    have hqm:=hol q (by simp) p (by simp)
    obtain ⟨n1,n2,n3⟩:=q10.1 ho
    simp only [List.dropLast_concat]
    split
    ·rename_i hle
     have n4:=n2.1
     refine ⟨q10.2 ⟨n1,⟨by show q.From<max q.To p.To;omega,by simp,trivial⟩,fun a ha b hb=>?_⟩,fun x=>?_,fun a ha r hr=>?_⟩
     ·simp at hb;subst hb
      exact n3 a ha q (by simp)
     ·simp only [qt,qu,qy,or_false]
      constructor
      ·rintro (h|h)
       ·exact .inl (.inl h)
       ·by_cases hx:x<q.To
        ·exact .inl (.inr ⟨h.1,hx⟩)
        ·exact .inr ⟨by omega,by have:=h.2;first|omega|(simp only at this;omega)⟩
      ·rintro ((h|h)|h)
       ·exact .inl h
       ·exact .inr ⟨h.1,by first|omega|(simp only;omega)⟩
       ·exact .inr ⟨by first|omega|(simp only;omega),by first|omega|(simp only;omega)⟩
     ·simp only [List.mem_append,List.mem_singleton] at ha
      rcases ha with ha|ha
      ·exact hol a (by simp [ha]) r (by simp [hr])
      ·subst ha
       exact hol q (by simp) r (by simp [hr])
    ·rename_i hle
     refine ⟨q10.2 ⟨ho,⟨hp,by simp,trivial⟩,fun a ha b hb=>?_⟩,fun x=>?_,fun a ha r hr=>?_⟩
     ·simp at hb;subst hb
      simp only [List.mem_append,List.mem_singleton] at ha
      rcases ha with ha|ha
      ·have:=n3 a ha q (by simp)
       have:=n2.1
       omega
      ·subst ha;omega
     ·simp only [qt,qu,qy,or_false]
     ·simp only [List.mem_append,List.mem_singleton] at ha
      rcases ha with ha|ha
      ·exact hol a (by simpa using ha) r (by simp [hr])
      ·subst ha
       exact hs.1 r hr
  obtain ⟨k1,k2,k3⟩:=key
  obtain ⟨m1,m2⟩:=qsg l (stepU out p) (fun r hr=>hl r (by simp [hr])) hs.2 k1 k3
  refine ⟨m1,fun x=>?_⟩
  show Inn (mergeU (stepU out p) l) x ↔ _
  rw [m2,k2,qu,or_assoc]
def gp (til len:Int):Int→List Pd→List Pd
 |at',[]=>if len≤til - at' then [⟨at',til⟩] else []
 |at',p::l=>(if len≤min p.From til - at' then [⟨at',min p.From til⟩] else [])++gp til len (max at' p.To) l
theorem qj5 {til len:Int}:∀ (l:List Pd) (a:Int),∀ q∈gp til len a l,a≤q.From∧q.To≤til∧len≤q.To - q.From
 |[],a,q,hq=>by
  simp only [gp] at hq
  split at hq
  ·simp at hq;subst hq;exact ⟨Int.le_refl _,Int.le_refl _,by assumption⟩
  ·simp at hq
 |p::l,a,q,hq=>by
  simp only [gp,List.mem_append] at hq
  rcases hq with hq|hq
  ·split at hq
   ·simp at hq;subst hq;exact ⟨Int.le_refl _,by first|omega|(simp only;omega),by assumption⟩
   ·simp at hq
  ·have:=qj5 l _ q hq
   exact ⟨by omega,this.2⟩
theorem gp_ok {til:Int}:∀ (l:List Pd) (a:Int),NF l→NF (gp til 1 a l)∧∀ x,Inn (gp til 1 a l) x ↔ a≤x∧x<til∧¬ Inn l x
 |[],a,_=>by
  simp only [gp]
  split
  ·exact ⟨⟨by show a<til;omega,by simp,trivial⟩,fun x=>by simp [Inn]⟩
  ·exact ⟨trivial,fun x=>by simp [Inn];omega⟩
 |p::l,a,h=>by
  obtain ⟨h1,h2,h3⟩:=h
  obtain ⟨g1,g2⟩:=gp_ok (til:=til) l (max a p.To) h3
  have key:∀ x,Inn l x→p.To<x:=fun x ⟨r,hr,hx⟩=>by have:=h2 r hr;omega
  simp only [gp]
  split
  ·rename_i hle
   refine ⟨q10.2 ⟨⟨by show a<min p.From til;omega,by simp,trivial⟩,g1,fun q hq r hr=>?_⟩,fun x=>?_⟩
   ·simp at hq;subst hq
    have:=(qj5 l _ r hr).1
    simp only;omega
   ·rw [qt,g2]
    simp only [qu,qy,or_false]
    constructor
    ·rintro (h|h)
     ·refine ⟨h.1,by omega,?_⟩
      rintro (h'|h')
      ·omega
      ·have:=key x h';omega
     ·exact ⟨by omega,h.2.1,by rintro (h'|h');omega;exact h.2.2 h'⟩
    ·rintro ⟨ha,hb,hc⟩
     by_cases hx:x<p.From
     ·exact .inl ⟨ha,by omega⟩
     ·refine .inr ⟨?_,hb,fun h'=>hc (.inr h')⟩
      have:¬ x<p.To:=fun h'=>hc (.inl ⟨by omega,h'⟩)
      omega
  ·rename_i hle
   refine ⟨g1,fun x=>?_⟩
   rw [List.nil_append,g2]
   simp only [qu]
   constructor
   ·rintro h
    exact ⟨by omega,h.2.1,by rintro (h'|h');omega;exact h.2.2 h'⟩
   ·rintro ⟨ha,hb,hc⟩
    refine ⟨?_,hb,fun h'=>hc (.inr h')⟩
    by_cases hx:x<p.From
    ·omega
    ·have:¬ x<p.To:=fun h'=>hc (.inl ⟨by omega,h'⟩)
     omega
theorem gp_len {til len:Int} (hl:1≤len):∀ (l:List Pd) (a:Int),gp til len a l=(gp til 1 a l).filter fun q=>decide (len≤q.To - q.From)
 |[],a=>by
  simp only [gp]
  by_cases h:len≤til - a
  ·rw [if_pos h,if_pos (by omega)];simp [h]
  ·rw [if_neg h];split <;> simp [h]
 |p::l,a=>by
  simp only [gp,List.filter_append,gp_len hl l]
  congr 1
  by_cases h:len≤min p.From til - a
  ·rw [if_pos h,if_pos (by omega)];simp only [List.filter_cons,List.filter_nil];simp [h]
  ·rw [if_neg h];split <;> simp only [List.filter_cons,List.filter_nil] <;> simp [h]
theorem q10p (out:List Pd) (p:Pd):(stepU out p).length≤out.length+1:=by
 unfold stepU
 cases hq:out.getLast? with
 |none=>simp
 |some q =>
  obtain ⟨ys,rfl⟩:=List.getLast?_eq_some_iff.1 hq
  simp only [List.dropLast_concat]
  split <;> simp
theorem q14i (l:List Pd) (hn:l.length≤1000000000):∀ (m k:Nat) (b:List Pd),k+m=l.length→b.length≤k →
  q14c b.length l l.length k b=some (((mergeU b (l.drop k)).length,l,(l.length:Int),(l.length:Int),false),mergeU b (l.drop k)):=by
 intro m
 induction m with
 |zero =>
  intro k b hk hb
  have:k=l.length:=by omega
  subst this
  refine q14d ?_
  simp only [q14h,q77,qit,EC.decL_encL,EC.isL_encL,EC.encL_length,qmg,q3a,q3b,q29,q2w,qxe,qxd,qxf,qmi,q3c,q2b,q2y,qxg,qmh,q3g,q2a,q2x,qxl]
  simp [mergeU]
 |succ m ih =>
  intro k b hk hb
  have hlt:k<l.length:=by omega
  have hk':(k:Int)<(l.length:Int):=by omega
  have hs:=q10p b l[k]
  have h1:=ih (k+1) (stepU b l[k]) (by omega) (by omega)
  have e:mergeU b (l.drop k)=mergeU (stepU b l[k]) (l.drop (k+1)):=by rw [qcv hlt];rfl
  rw [e]
  refine q14d ?_
  cases hq:b.getLast? with
  |none =>
   have:b=[]:=by simpa using hq
   subst this
   have e1:stepU [] l[k]=[l[k]]:=rfl
   rw [e1] at h1 ⊢
   have hw:IntKind.i64.wrap (((0:Nat):Int) - 1)=-1:=rfl
   simp only [q14h,q77,qit,EC.decL_encL,EC.isL_encL,EC.encL_length,qmg,q3a,q3b,q29,q2w,qxe,qxd,qxf,qmi,q3c,q2b,q2y,qxg,qmh,q3g,q2a,q2x,qxl,Int.toNat_natCast,qiw hlt,List.length_nil,hw,q15g hlt (show l.length≤9223372036854775807 by omega)]
   have e2:({ From:=l[k].From,To:=l[k].To }:Pd)=l[k]:=rfl
   simp only [e2,List.nil_append]
   simp only [List.length_cons,List.length_nil] at h1
   simp only [Nat.zero_add] at h1
   simp [hlt]
   rw [←h1]
   norm_cast
  |some q =>
   obtain ⟨ys,rfl⟩:=List.getLast?_eq_some_iff.1 hq
   simp only [List.length_append,List.length_cons,List.length_nil] at hb
   have hw:IntKind.i64.wrap ((((ys++[q]).length:Nat):Int) - 1)=(ys.length:Int):=by
    rw [q15f (by simp) (by simp;omega)];simp
   have hyl:ys.length<(ys++[q]).length:=by simp
   have hg:(ys++[q])[ys.length]'hyl=q:=by simp
   simp only [q14h,q77,qit,EC.decL_encL,EC.isL_encL,EC.encL_length,qmg,q3a,q3b,q29,q2w,qxe,qxd,qxf,qmi,q3c,q2b,q2y,qxg,qmh,q3g,q2a,q2x,qxl,Int.toNat_natCast,qiw hlt,hw,q15g hlt (show l.length≤9223372036854775807 by omega),qiw hyl,hg,len_24 _ _ hyl,qmr _ _ hyl]
   have c1:(ys.length:Int)<(((ys++[q]).length:Nat):Int):=by omega
   by_cases hle:l[k].From≤q.To
   ·have e1:stepU (ys++[q]) l[k]=ys++[⟨q.From,max q.To l[k].To⟩]:=by simp [stepU,hle]
    have e2:(ys++[q]).set ys.length ⟨q.From,if q.To<l[k].To then l[k].To else q.To⟩=ys++[⟨q.From,max q.To l[k].To⟩]:=by
     rw [List.set_append_right _ _ (Nat.le_refl _)]
     have:(if q.To<l[k].To then l[k].To else q.To)=max q.To l[k].To:=by split <;> omega
     simp [this]
    have e3:(ys++[(⟨q.From,max q.To l[k].To⟩:Pd)]).length=(ys++[q]).length:=by simp
    rw [e1] at h1 ⊢
    rw [e3] at h1
    simp only [hle,hk',hlt,hyl,c1,if_true,decide_true,Bool.and_self,Int.natCast_nonneg,e2,h1,ge_iff_le,beq_self_eq_true]
   ·have e1:stepU (ys++[q]) l[k]=ys++[q]++[l[k]]:=by simp [stepU,hle]
    have e2:({ From:=l[k].From,To:=l[k].To }:Pd)=l[k]:=rfl
    have e3:(ys++[q]++[l[k]]).length=(ys++[q]).length+[[C.int IntKind.i64 l[k].From,C.int IntKind.i64 l[k].To]].length:=by simp
    have e4:(((ys++[q]).length+[[C.int IntKind.i64 l[k].From,C.int IntKind.i64 l[k].To]].length)+((ys++[q]).length+[[C.int IntKind.i64 l[k].From,C.int IntKind.i64 l[k].To]].length) / 4+192)*16≤281474976710656:=by simp;omega
    have e5:(ys++[q]).length+[[C.int IntKind.i64 l[k].From,C.int IntKind.i64 l[k].To]].length≤9223372036854775807:=by simp;omega
    rw [e1] at h1 ⊢
    rw [e3] at h1
    simp only [hle,hk',hlt,hyl,c1,if_true,decide_true,decide_false,Bool.and_self,Int.natCast_nonneg,e2,h1,ge_iff_le,beq_self_eq_true,Bool.false_eq_true,if_false,e4,e5,List.all_cons,List.all_nil,List.length_cons,List.length_nil]
    simp only [List.length_append,List.length_cons,List.length_nil,Int.natCast_add,List.append_assoc,List.cons_append,List.nil_append,Nat.zero_add,Int.natCast_one] at h1 ⊢
    simp only [h1]
    simp
    omega
end Go.Proofs.YtfakibajjibjjaaGreatDoor
