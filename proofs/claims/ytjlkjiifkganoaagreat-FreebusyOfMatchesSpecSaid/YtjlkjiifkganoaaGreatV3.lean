/- The reference's pieces of a span, in plain words. -/
import Derived.Test.YtjlkjiifkganoaaGreatZ29
namespace Go.Proofs.YtjlkjiifkganoaaGreat
open Go.RowKit
def busyB (l:List Pd) (x:Int):Bool:=l.any fun p=>decide (p.From≤x)&&decide (x<p.To)
theorem q60 (l:List Pd) (x:Int):busyB l x=true ↔ Inn l x:=by
 unfold busyB Inn
 rw [List.any_eq_true]
 simp
theorem q61 (l:List Pd) (x:Int) (hn:l.length≤9223372036854775807):∀ (m k:Nat),k+m=l.length →
  (qm5 l x k).bind (Sum.elim (fun x=>some x.1) (fun _=>some false))=some (busyB (l.drop k) x):=by
 intro m
 induction m with
 |zero =>
  intro k hk
  have:k=l.length:=by omega
  subst this
  have h1:qm5 l x l.length=some (.inr ((l,x,(l.length:Int),false),())):=qm7 (by
   simp only [qmc,q5n,qfl,EC.decL_encL,EC.isL_encL,EC.encL_length,qgy,q37,q38]
   simp)
  rw [h1]
  simp [busyB]
 |succ m ih =>
  intro k hk
  have hlt:k<l.length:=by omega
  have hk':(k:Int)<(l.length:Int):=by omega
  rw [qa0 hlt]
  have hc:busyB (l[k]::l.drop (k+1)) x=((decide (l[k].From≤x)&&decide (x<l[k].To))||busyB (l.drop (k+1)) x):=by simp only [busyB,List.any_cons]
  rw [hc]
  by_cases hp:(decide (l[k].From≤x)&&decide (x<l[k].To))=true
  ·have h1:qm5 l x k=some (.inl (true,())):=qm7 (by
    simp at hp
    simp only [qmc,q5n,qfl,EC.decL_encL,EC.isL_encL,EC.encL_length,qgy,q37,q38,Int.toNat_natCast,qfo hlt]
    simp [hk',hlt,hp])
   rw [h1,hp]
   rfl
  ·obtain ⟨r,hr,h2⟩:=qsz (ih (k+1) (by omega))
   have h1:qm5 l x k=some r:=qm7 (by
    simp at hp
    simp only [qmc,q5n,qfl,EC.decL_encL,EC.isL_encL,EC.encL_length,qgy,q37,q38,Int.toNat_natCast,qfo hlt,qy6 hlt hn,hr]
    by_cases h3:l[k].From≤x
    ·have:=hp h3
     simp [hk',hlt,h3,show ¬ x<l[k].To by omega]
    ·simp [hk',hlt,h3])
   rw [h1,(Bool.not_eq_true _).mp hp,Bool.false_or]
   exact h2
theorem busy_s (l:List Pd) (x:Int) (hn:l.length≤9223372036854775807):qmd l x=some (busyB l x):=qm4 (by
 obtain ⟨r,hr,h⟩:=qsz (q61 l x hn l.length 0 (by omega))
 rw [List.drop_zero] at h
 simp only [Int.natCast_zero] at hr
 simp only [qme,qfl,EC.decL_encL,EC.isL_encL,hr,Option.bind_some,if_true]
 exact h)
def cand (l:List Pd):List Int:=l.flatMap fun p=>[p.From,p.To]
theorem q6n (l:List Pd):(cand l).length=2*l.length:=by
 induction l with
 |nil=>rfl
 |cons p l ih =>
  show ([p.From,p.To]++cand l).length=_
  rw [List.length_append,ih]
  simp only [List.length_cons,List.length_nil]
  omega
theorem two_3 (a b:Int) (xs:List Int):qak.encL xs++[[C.int .i64 a],[C.int .i64 b]]=qak.encL (xs++[a,b]):=by simp [EC.encL];exact ⟨rfl,rfl⟩
theorem lit2_3 (a b:Int):qak.decL [[C.int .i64 a],[C.int .i64 b]]=[a,b]:=rfl
theorem q6o (l:List Pd) (f t:Int) (hn:l.length≤1000000000):∀ (m k:Nat) (b:List Int),k+m=l.length→b.length≤2*k+2 →
  qnn l f t b.length k b=some ((l,f,t,(b++cand (l.drop k)).length,(l.length:Int),false),b++cand (l.drop k)):=by
 intro m
 induction m with
 |zero =>
  intro k b hk hb
  have:k=l.length:=by omega
  subst this
  refine qnp ?_
  simp only [qnt,q5n,qfl,EC.decL_encL,EC.isL_encL,EC.encL_length,q1l,qgy,q37,q38]
  simp [cand]
 |succ m ih =>
  intro k b hk hb
  have hlt:k<l.length:=by omega
  have hk':(k:Int)<(l.length:Int):=by omega
  have h1:=ih (k+1) (b++[l[k].From,l[k].To]) (by omega) (by simp;omega)
  have e:cand (l.drop k)=[l[k].From,l[k].To]++cand (l.drop (k+1)):=by rw [qa0 hlt];simp only [cand,List.flatMap_cons]
  rw [e,←List.append_assoc]
  refine qnp ?_
  rw [List.length_append] at h1
  simp only [qnt,q5n,qfl,EC.decL_encL,EC.isL_encL,EC.encL_length,q1l,qgy,q37,q38,two_3,Int.toNat_natCast,qfo hlt,qy6 hlt (show l.length≤9223372036854775807 by omega),List.length_cons,List.length_nil] at h1 ⊢
  simp only [h1]
  simp [hk',hlt]
  omega
def minA (last:Int):Int→List Int→Int
 |n,[]=>n
 |n,v::l=>minA last (if last<v∧v<n then v else n) l
theorem qjw (last:Int):∀ (l:List Int) (n:Int),minA last n l≤n∧(minA last n l<n→minA last n l∈l∧last<minA last n l)∧∀ v∈l,last<v→minA last n l≤v
 |[],n=>⟨Int.le_refl _,fun h=>absurd h (by simp [minA]),by simp⟩
 |v::l,n=>by
  obtain ⟨h1,h2,h3⟩:=qjw last l (if last<v∧v<n then v else n)
  simp only [minA]
  generalize hm:minA last (if last<v∧v<n then v else n) l=m at *
  by_cases hv:last<v∧v<n
  ·rw [if_pos hv] at h1 h2
   refine ⟨by omega,fun _=>?_,fun w hw hl=>?_⟩
   ·by_cases h:m<v
    ·have:=h2 h;exact ⟨List.mem_cons_of_mem _ this.1,this.2⟩
    ·have:m=v:=by omega
     subst this;exact ⟨List.mem_cons_self ..,hv.1⟩
   ·rcases List.mem_cons.1 hw with e|e
    ·subst e;exact h1
    ·exact h3 w e hl
  ·rw [if_neg hv] at h1 h2
   refine ⟨h1,fun h=>?_,fun w hw hl=>?_⟩
   ·have:=h2 h;exact ⟨List.mem_cons_of_mem _ this.1,this.2⟩
   ·rcases List.mem_cons.1 hw with e|e
    ·subst e;omega
    ·exact h3 w e hl
theorem qjx (til last:Int) (out:Nat) (all b1:List Int) (hn:all.length≤9223372036854775807):∀ (m k:Nat) (n:Int),k+m=all.length →
  qng til all.length out last n k all b1=some ((til,all.length,out,last,minA last n (all.drop k),(all.length:Int),false),(all,b1)):=by
 intro m
 induction m with
 |zero =>
  intro k n hk
  have:k=all.length:=by omega
  subst this
  refine qni ?_
  simp only [qnm,q5n,qfl,EC.decL_encL,EC.isL_encL,EC.encL_length,q2i]
  simp [minA]
 |succ m ih =>
  intro k n hk
  have hlt:k<all.length:=by omega
  have hk':(k:Int)<(all.length:Int):=by omega
  have h1:=ih (k+1) (if last<all[k]∧all[k]<n then all[k] else n) (by omega)
  have e:minA last n (all.drop k)=minA last (if last<all[k]∧all[k]<n then all[k] else n) (all.drop (k+1)):=by rw [qa0 hlt];rfl
  rw [e]
  refine qni ?_
  by_cases h2:last<all[k]
  ·by_cases h3:all[k]<n
   ·rw [if_pos ⟨h2,h3⟩] at h1 ⊢
    simp only [qnm,q5n,qfl,EC.decL_encL,EC.isL_encL,EC.encL_length,q2i,Int.toNat_natCast,qfo hlt,qj1 all k hlt,qh1 all k hlt,qy6 hlt hn,h1]
    simp [hk',hlt,h2,h3]
   ·rw [if_neg (fun h=>h3 h.2)] at h1 ⊢
    simp only [qnm,q5n,qfl,EC.decL_encL,EC.isL_encL,EC.encL_length,q2i,Int.toNat_natCast,qfo hlt,qj1 all k hlt,qh1 all k hlt,qy6 hlt hn,h1]
    simp [hk',hlt,h2,h3]
  ·rw [if_neg (fun h=>h2 h.1)] at h1 ⊢
   simp only [qnm,q5n,qfl,EC.decL_encL,EC.isL_encL,EC.encL_length,q2i,Int.toNat_natCast,qfo hlt,qj1 all k hlt,qh1 all k hlt,qy6 hlt hn,h1]
   simp [hk',hlt,h2]
def bL (til:Int) (all:List Int):Nat→Int→List Int
 |0,_=>[]
 |q+1,last=>if til<minA last (til+1) all then [] else minA last (til+1) all::bL til all q (minA last (til+1) all)
theorem q3n (til:Int) (all:List Int):∀ (q:Nat) (last:Int),til - last≤q→(∀ v∈bL til all q last,last<v∧v≤til)∧(∀ v∈all,last<v→v≤til→v∈bL til all q last)∧((bL til all q last).length:Int)≤max 0 (til - last)
 |0,last,h=>⟨by simp [bL],fun v _ h1 h2=>by omega,by simp [bL];omega⟩
 |q+1,last,h=>by
  obtain ⟨m1,m2,m3⟩:=qjw last all (til+1)
  simp only [bL]
  generalize minA last (til+1) all=m at *
  by_cases hm:til<m
  ·rw [if_pos hm]
   refine ⟨by simp,fun v hv h1 h2=>?_,by simp;omega⟩
   have:=m3 v hv h1
   omega
  ·rw [if_neg hm]
   have hlm:=(m2 (by omega)).2
   obtain ⟨i1,i2,i3⟩:=q3n til all q m (by omega)
   refine ⟨fun v hv=>?_,fun v hv h1 h2=>?_,?_⟩
   ·rcases List.mem_cons.1 hv with e|e
    ·subst e;omega
    ·have:=i1 v e;omega
   ·by_cases e:v=m
    ·subst e;exact List.mem_cons_self ..
    ·have:=m3 v hv h1
     exact List.mem_cons_of_mem _ (i2 v hv (by omega) h2)
   ·rw [List.length_cons];omega
theorem q3m (til f:Int) (all:List Int) (hn:all.length≤9223372036854775807) (hf:-68719476736≤f) (ht:til≤68719476736):∀ (q:Nat) (last:Int) (b:List Int),til - last<q→f - 1≤last→last≤til→(b.length:Int)≤last - f+1 →
  qnu til all.length b.length last all b=some ((b++bL til all q last).length,b++bL til all q last):=by
 intro q
 induction q with
 |zero=>intro last b h1 h2 h3 h4;omega
 |succ q ih =>
  intro last b h1 h2 h3 h4
  refine qnw ?_
  have hmin:=qjx til last b.length all b hn all.length 0 (til+1) (by omega)
  rw [List.drop_zero] at hmin
  simp only [Int.natCast_zero] at hmin
  have hw:IntKind.i64.wrap (til+1)=til+1:=qy5 (by omega) (by omega)
  obtain ⟨m1,m2,m3⟩:=qjw last all (til+1)
  simp only [bL]
  generalize minA last (til+1) all=m at *
  by_cases hm:til<m
  ·simp only [qo0,q5n,qfl,EC.decL_encL,EC.isL_encL,q1l,q1x,hw,hmin,Option.bind_some,if_true]
   simp [hm]
  ·have hlm:=(m2 (by omega)).2
   have h5:=ih m (b++[m]) (by omega) (by omega) (by omega) (by rw [List.length_append];simp;omega)
   rw [List.append_assoc] at h5
   rw [List.length_append] at h5
   simp only [List.length_cons,List.length_nil,List.cons_append,List.nil_append] at h5
   simp only [qo0,q5n,qfl,EC.decL_encL,EC.isL_encL,q1l,q1x,hw,hmin,Option.bind_some,if_true,List.length_cons,List.length_nil,h5]
   simp [hm]
   omega
def bnds (l:List Pd) (f t:Int):List Int:=bL t ([f,t]++cand l) (t - f+2).toNat (f - 1)
theorem q5m (l:List Pd) (f t:Int) (hn:l.length≤1000000000) (hf:-68719476736≤f) (hft:f≤t) (ht:t≤68719476736):qo1 l f t=some ((bnds l f t).length,bnds l f t):=qnf (by
 have h1:=q6o l f t hn l.length 0 [f,t] (by omega) (by simp)
 rw [List.drop_zero] at h1
 simp only [Int.natCast_zero,List.length_cons,List.length_nil] at h1
 have hcl:=q6n l
 have h2:=q3m t f ([f,t]++cand l) (by rw [List.length_append,hcl];simp;omega) hf ht (t - f+2).toNat (f - 1) [] (by omega) (by omega) (by omega) (by simp;omega)
 have hw:IntKind.i64.wrap (f - 1)=f - 1:=qy5 (by omega) (by omega)
 rw [List.nil_append] at h2
 simp only [List.length_nil] at h2
 simp only [qo2,qfl,EC.decL_encL,EC.isL_encL,lit2_3,qc,h1,Option.bind_some,if_true,hw,h2]
 rfl)
theorem q5j {l:List Pd} {f t:Int} (hft:f≤t):∃ r,bnds l f t=f::r∧lastD f r=t∧Rise (f::r)∧((bnds l f t).length:Int)≤t - f+1∧∀ busy:Bool,Seg (fun x=>Inn l x ↔ busy=true) (fun a=>busyB l a==busy) (f::r):=by
 have hall:∀ p∈l,p.From∈[f,t]++cand l∧p.To∈[f,t]++cand l:=fun p hp=>by
  constructor <;> refine List.mem_append_right _ (List.mem_flatMap.2 ⟨p,hp,by simp⟩)
 unfold bnds
 generalize hA:[f,t]++cand l=all at *
 have hfa:f∈all:=by rw [←hA];simp
 have hta:t∈all:=by rw [←hA];simp
 -- steps
 have key:∀ (q:Nat) (a:Int),t - a<q→a≤t→lastD a (bL t all q a)=t∧Rise (a::bL t all q a)∧∀ busy:Bool,Seg (fun x=>Inn l x ↔ busy=true) (fun a=>busyB l a==busy) (a::bL t all q a):=by
  intro q
  induction q with
  |zero=>intro a h1 h2;omega
  |succ q ih =>
   intro a h1 h2
   obtain ⟨m1,m2,m3⟩:=qjw a all (t+1)
   simp only [bL]
   generalize minA a (t+1) all=m at *
   by_cases hm:t<m
   ·rw [if_pos hm]
    have:¬ a<t:=fun h=>by have:=m3 t hta h;omega
    exact ⟨by simp [lastD];omega,trivial,fun _=>trivial⟩
   ·rw [if_neg hm]
    have hlm:=(m2 (by omega)).2
    obtain ⟨i1,i2,i3⟩:=ih m (by omega) (by omega)
    refine ⟨i1,⟨hlm,i2⟩,fun busy=>⟨fun x hx1 hx2=>?_,i3 busy⟩⟩
    have:Inn l x ↔ Inn l a:=by
     unfold Inn
     constructor
     ·rintro ⟨p,hp,h3,h4⟩
      refine ⟨p,hp,?_,by omega⟩
      rcases Int.lt_or_le a p.From with h|h
      ·have:=m3 p.From (hall p hp).1 h;omega
      ·exact h
     ·rintro ⟨p,hp,h3,h4⟩
      have:=m3 p.To (hall p hp).2 h4
      exact ⟨p,hp,by omega,by omega⟩
    show (Inn l x ↔ busy=true) ↔ (busyB l a==busy)=true
    rw [this,←q60]
    cases busyB l a <;> cases busy <;> simp
 obtain ⟨m1,m2,m3⟩:=qjw (f - 1) all (t+1)
 have e:minA (f - 1) (t+1) all=f:=by
  have:=m3 f hfa (by omega)
  have:=(m2 (by omega)).2
  omega
 obtain ⟨q,hq⟩:∃ q,(t - f+2).toNat=q+1:=⟨(t - f+1).toNat,by omega⟩
 obtain ⟨k1,k2,k3⟩:=key q f (by omega) hft
 have hlen:=(q3n t all (q+1) (f - 1) (by omega)).2.2
 rw [hq]
 have e2:bL t all (q+1) (f - 1)=f::bL t all q f:=by
  rw [bL,e,if_neg (by omega)]
 refine ⟨bL t all q f,e2,k1,k2,by omega,k3⟩
theorem qts (out:List Pd) (a c:Int):(stepW out a c).length≤out.length+1:=by
 unfold stepW
 cases hq:out.getLast? with
 |none=>simp
 |some q =>
  obtain ⟨ys,rfl⟩:=List.getLast?_eq_some_iff.1 hq
  simp only [List.dropLast_concat]
  split <;> simp
theorem qxx (pb:Int→Bool) (out:List Pd):∀ (l:List Int),l.length≤1→wiU pb out l=out
 |[],_=>rfl
 |[a],_=>rfl
 |a::c::r,h=>by simp at h
theorem qxz (l:List Pd) (busy:Bool) (hl:l.length≤9223372036854775807) (b:List Int) (hn:b.length≤1000000000000):∀ (m k:Nat) (out:List Pd),k+m=b.length→out.length≤k →
  ∃ r,qn3 l busy b.length out.length k b out=some r∧r.1.2.2.2.1=(wiU (fun a=>busyB l a==busy) out (b.drop k)).length∧r.2.2=wiU (fun a=>busyB l a==busy) out (b.drop k):=by
 intro m
 induction m with
 |zero =>
  intro k out hk ho
  have hk0:k=b.length:=by omega
  have hw:IntKind.i64.wrap ((k:Int)+1)=(k:Int)+1:=qy5 (by omega) (by omega)
  have hd:b.drop k=[]:=by rw [hk0];simp
  rw [hd]
  refine ⟨((l,busy,b.length,out.length,(k:Int),false),(b,out)),qn5 ?_,rfl,rfl⟩
  simp only [qn9,q5n,qfl,EC.decL_encL,EC.isL_encL,EC.encL_length,q2i,q38,q1o,q20,qs1,hw]
  simp [show ¬ (k:Int)+1<(b.length:Int) by omega]
 |succ m ih =>
  intro k out hk ho
  have hlt:k<b.length:=by omega
  by_cases h1:k+1<b.length
  case neg =>
   have hd:(b.drop k).length≤1:=by rw [List.length_drop];omega
   rw [qxx _ _ _ hd]
   refine ⟨((l,busy,b.length,out.length,(k:Int),false),(b,out)),qn5 ?_,rfl,rfl⟩
   have hw:IntKind.i64.wrap ((k:Int)+1)=(k:Int)+1:=qy5 (by omega) (by omega)
   simp only [qn9,q5n,qfl,EC.decL_encL,EC.isL_encL,EC.encL_length,q2i,q38,q1o,q20,qs1,hw]
   simp [show ¬ (k:Int)+1<(b.length:Int) by omega]
  case pos =>
   have hk':(k:Int)<(b.length:Int):=by omega
   have hk1:((k+1:Nat):Int)<(b.length:Int):=by omega
   have hw:IntKind.i64.wrap ((k:Int)+1)=((k+1:Nat):Int):=qy6 hlt (by omega)
   have hd:b.drop k=b[k]::b[k+1]::b.drop (k+1+1):=by rw [qa0 hlt,qa0 h1]
   have hd1:b.drop (k+1)=b[k+1]::b.drop (k+1+1):=qa0 h1
   by_cases hb:busyB l b[k]=busy
   case neg =>
    obtain ⟨r,hr,e1,e2⟩:=ih (k+1) out (by omega) (by omega)
    have hbe:(busyB l b[k]==busy)=false:=by simpa using hb
    have ew:wiU (fun a=>busyB l a==busy) out (b.drop k)=wiU (fun a=>busyB l a==busy) out (b.drop (k+1)):=by
     rw [hd,wiU,←hd1];simp only [hbe,Bool.false_eq_true,if_false]
    rw [ew]
    refine ⟨r,qn5 ?_,e1,e2⟩
    simp only [qn9,q5n,qfl,EC.decL_encL,EC.isL_encL,EC.encL_length,q2i,q38,q1o,q20,qs1,hw,Int.toNat_natCast,qfo hlt,qj1 b k hlt,qh1 b k hlt,busy_s l _ hl,Option.bind_some,hbe,hr]
    simp [hk',hlt]
    omega
   case pos =>
    have hs:=qts out b[k] b[k+1]
    obtain ⟨r,hr,e1,e2⟩:=ih (k+1) (stepW out b[k] b[k+1]) (by omega) (by omega)
    have hbe:(busyB l b[k]==busy)=true:=by simpa using hb
    have ew:wiU (fun a=>busyB l a==busy) out (b.drop k)=wiU (fun a=>busyB l a==busy) (stepW out b[k] b[k+1]) (b.drop (k+1)):=by
     rw [hd,wiU,←hd1];simp only [hbe,if_true]
    rw [ew]
    refine ⟨r,qn5 ?_,e1,e2⟩
    cases hq:out.getLast? with
    |none =>
     have:out=[]:=by simpa using hq
     subst this
     have es:stepW [] b[k] b[k+1]=[⟨b[k],b[k+1]⟩]:=rfl
     rw [es] at hr
     simp only [List.length_cons,List.length_nil,Nat.zero_add] at hr
     simp only [qn9,q5n,qfl,EC.decL_encL,EC.isL_encL,EC.encL_length,q2i,q38,q1o,q20,qs1,hw,Int.toNat_natCast,qfo hlt,qfo h1,qj1 b k hlt,qh1 b k hlt,qj1 b _ h1,qh1 b _ h1,busy_s l _ hl,Option.bind_some,hbe,List.nil_append,List.length_cons,List.length_nil,Nat.zero_add,hr]
     simp [hk',hlt,h1]
     rw [if_pos (by omega),if_pos (by omega)]
    |some q =>
     obtain ⟨ys,rfl⟩:=List.getLast?_eq_some_iff.1 hq
     have hwo:IntKind.i64.wrap ((((ys++[q]).length:Nat):Int) - 1)=(ys.length:Int):=by
      rw [qy5 (by simp) (by simp at ho ⊢;omega)];simp
     have hyl:ys.length<(ys++[q]).length:=by simp
     have hg:(ys++[q])[ys.length]'hyl=q:=by simp
     have c1:(ys.length:Int)<(((ys++[q]).length:Nat):Int):=by omega
     have c2:(((ys++[q]).length:Nat):Int)>0:=by omega
     by_cases hqt:q.To=b[k]
     ·have es:stepW (ys++[q]) b[k] b[k+1]=ys++[⟨q.From,b[k+1]⟩]:=by simp [stepW,hqt]
      have eset:(ys++[q]).set ys.length ⟨q.From,b[k+1]⟩=ys++[⟨q.From,b[k+1]⟩]:=by
       rw [List.set_append_right _ _ (Nat.le_refl _)];simp
      have el:(ys++[(⟨q.From,b[k+1]⟩:Pd)]).length=(ys++[q]).length:=by simp
      rw [es,el] at hr
      simp only [qn9,q5n,qfl,EC.decL_encL,EC.isL_encL,EC.encL_length,q2i,q38,q1o,q20,qs1,hw,Int.toNat_natCast,qfo hlt,qfo h1,qj1 b k hlt,qh1 b k hlt,qj1 b _ h1,qh1 b _ h1,busy_s l _ hl,Option.bind_some,hbe,hwo,qfo hyl,hg,len_47 _ _ hyl,qh2 _ _ hyl,hqt,eset,hr]
      simp only [hk',hk1,hlt,h1,c1,c2,hyl,decide_true,Bool.and_self,if_true,Int.natCast_nonneg,beq_self_eq_true,Bool.not_true,Bool.false_eq_true,if_false]
     ·have es:stepW (ys++[q]) b[k] b[k+1]=ys++[q]++[⟨b[k],b[k+1]⟩]:=by simp [stepW,hqt]
      have hqe:(q.To==b[k])=false:=by simpa using hqt
      rw [es,List.length_append] at hr
      have e4:(((ys++[q]).length+1)+((ys++[q]).length+1) / 4+192)*16≤281474976710656:=by omega
      have e5:(ys++[q]).length+1≤9223372036854775807:=by omega
      simp only [List.length_cons,List.length_nil,Nat.zero_add] at hr
      simp only [qn9,q5n,qfl,EC.decL_encL,EC.isL_encL,EC.encL_length,q2i,q38,q1o,q20,qs1,hw,Int.toNat_natCast,qfo hlt,qfo h1,qj1 b k hlt,qh1 b k hlt,qj1 b _ h1,qh1 b _ h1,busy_s l _ hl,Option.bind_some,hbe,hwo,qfo hyl,hg,len_47 _ _ hyl,qh2 _ _ hyl,hqe,List.length_cons,List.length_nil,Nat.zero_add,hr]
      simp only [hk',hk1,hlt,h1,c1,c2,hyl,decide_true,Bool.and_self,if_true,Int.natCast_nonneg,beq_self_eq_true,Bool.not_true,Bool.false_eq_true,if_false,e4,e5,List.all_cons,List.all_nil]
      simp
def withinU (l:List Pd) (f t:Int) (busy:Bool):List Pd:=wiU (fun a=>busyB l a==busy) [] (bnds l f t)
theorem qy0 (l:List Pd) (f t:Int) (busy:Bool) (hn:l.length≤1000000000) (hf:-68719476736≤f) (hft:f≤t) (ht:t≤68719476736):qna l f t busy=some ((withinU l f t busy).length,withinU l f t busy):=qn2 (by
 have h1:=q5m l f t hn hf hft ht
 obtain ⟨_,_,_,_,hlen,_⟩:=q5j (l:=l) hft
 obtain ⟨r,hr,e1,e2⟩:=qxz l busy (by omega) (bnds l f t) (by omega) (bnds l f t).length 0 [] (by omega) (by simp)
 rw [List.drop_zero] at e1 e2
 simp only [Int.natCast_zero,List.length_nil] at hr
 simp only [qnb,qfl,EC.decL_encL,EC.isL_encL,qc,h1,Option.bind_some,if_true,hr,e1,e2]
 rfl)
theorem qxy {l:List Pd} {f t:Int} (hft:f≤t) (busy:Bool):NF (withinU l f t busy)∧∀ x,Inn (withinU l f t busy) x ↔ f≤x∧x<t∧(Inn l x ↔ busy=true):=by
 obtain ⟨r,e,hl,hr,_,hs⟩:=q5j (l:=l) hft
 obtain ⟨h1,h2⟩:=wiU_ok r f [] hr (hs busy) trivial (by simp)
 unfold withinU
 rw [e]
 refine ⟨h1,fun x=>?_⟩
 rw [h2,qm,false_or,hl]
end Go.Proofs.YtjlkjiifkganoaaGreat
