/- Fields folded into lines, headers: what the checks answer. -/
import Derived.Test.YtmlcmoaonaomfaaGreatDoorZ26
namespace Go.Proofs.YtmlcmoaonaomfaaGreatDoor
set_option linter.unusedSimpArgs false
open Go.RowKit
theorem maxI:IntKind.max IntKind.i64=9223372036854775807:=rfl
def ptP (s:BA) (v:Int):Prop:=0<=v/\v<=s.size
theorem qv5 (s:BA) (hs:s.size<=100000):∀ (m:Nat) (k:Nat) (b:Int),1<=k->s.size - k<=m->k<=9223372036854775806->ptP s b->Ok (qis s b k) λx=>Sum.elim (λr=>ptP s r.1.2.1) (λr=>ptP s r.1.2.1) x:=by
 intro m
 induction m with
 |zero =>
  intro k b h1 hk hk2 hb
  refine .via qiu ?_
  unfold qiz
  try simp only [wI,p0]
  refine qu7 (λh=>?_) (λ_=>qua hb)
  have:=of_decide_eq_true h
  omega
 |succ m ih =>
  intro k b h1 hk hk2 hb
  refine .via qiu ?_
  unfold qiz
  try simp only [wI,p0]
  refine qu7 (λh=>?_) (λ_=>qua hb)
  have hlt:k<s.size:=by have:=of_decide_eq_true h;omega
  have e2:IntKind.i64.wrap ((k:Int)+1)=((k+1:Nat):Int):=by rw [q1es (by omega)];rfl
  have e3:IntKind.i64.wrap ((k:Int) - 1)=((k - 1:Nat):Int):=by rw [q1es (by omega)];omega
  have hi:=λb' hb'=>ih (k+1) b' (by omega) (by omega) (by omega) hb'
  have hk':ptP s k:=⟨by omega,by omega⟩
  rw [e2,e3]
  refine qu9 (by simp;omega) (qu6 (q7r _) λr0 _=>qu7 (λ_=>qu9 (by simp;omega) (qu6 (q7r _) λr1 _=>qu7 (λ_=>hi b hb) (λ_=>qu7 (λ_=>qu7 (λ_=>qua hb) (λ_=>hi k hk')) (λ_=>hi k hk')))) (λ_=>hi b hb))
theorem qv6 (s:BA) (hs:s.size<=100000) (f:Int) (hf:f<=9223372036854775806):Ok (qj0 s f) (ptP s):=.via qir (by
 unfold qj1
 have hx:∃ k:Nat,1<=k/\k<=9223372036854775806/\(ite (true=true) (ite (f<(1:Int)) (1:Int) f) (ite ((1:Int)<f) (1:Int) f))=(k:Int):=by
  rw [if_pos rfl]
  split
  ·exact ⟨1,by omega,by omega,rfl⟩
  ·exact ⟨f.toNat,by omega,by omega,by omega⟩
 obtain ⟨k,h1,h2,h3⟩:=hx
 rw [h3]
 refine qu6 (qv5 s hs _ k 0 h1 (Nat.le_refl _) h2 ⟨by omega,by omega⟩) ?_
 rintro (r|r) hr
 ·exact qua hr
 ·exact qua hr)
def flQ (x:((Unit×BA×Int×Nat×Bool)×((Int×Int)×(List BA)))⊕((Unit×BA×Nat×Int×Bool)×((Int×Int)×(List BA)))):BA×Nat×List BA:=Sum.elim (λr=>(r.1.2.1,r.1.2.2.2.1,r.2.2)) (λr=>(r.1.2.1,r.1.2.2.1,r.2.2)) x
def szB (l:List BA):Prop:=∀ e∈l,e.size<=100000
theorem q1a6 {l:List BA} {s:BA} (h:szB l) (hs:s.size<=100000):szB (l++[s]):=by
 intro e he
 rcases List.mem_append.1 he with he|he
 ·exact h e he
 ·have:e=s:=by simpa using he
  rw [this];exact hs
theorem qia:∀ (m:Nat) (s:BA) (f:Int) (out:Nat) (l:List BA),s.size<=m->out=l.length->out+s.size<=100000->f<=100000->szB l->Ok (qhr s f out 0 0 l) λx=>(flQ x).2.1=(flQ x).2.2.length/\(flQ x).2.1<=100000/\(flQ x).1.size<=100000/\szB (flQ x).2.2/\(s.size<=78->flQ x=(s,out,l)):=by
 intro m
 induction m with
 |zero =>
  intro s f out l hm ho hb hf hz
  refine .via qht ?_
  unfold qhy
  try simp only [gL,dL,p0,aL,dQ]
  refine qu7 (λh=>?_) (λ_=>qu9 (by simp [EC.decL_encL,EC.isL_encL,EC.encL_length,qol,q4x,q3k,q43,q164,qoo,q52,q3n,q46,q16b,qom,q4y,q4z,q3l,q44,q166,q165,q167,qon,q50,q51,q3m,q45,q169,q168,q16a,qoh,q4c,q4d,q4e,q4f,q4g,q4h,q3g,q3z,q15h,q15g,q15i,q15j,q15k,q15l,q15m,qoj,q4j,q4k,q4o,q4p,q4q,q4r,q4s,q4t,q4u,q4v,q4l,q4m,q4n,q3i,q41,q15p,q15o,q15u,q15t,q15v,q15w,q15x,q15y,q15z,q160,q161,q162,q15q,q15r,q15s,qoi,q4i,q3h,q40,q15n]) (qua ?_))
  ·have:=of_decide_eq_true h
   omega
  ·simp only [x25q,x26q,x27q,qol,q4x,q3k,q43,q164,qoo,q52,q3n,q46,q16b,qom,q4y,q4z,q3l,q44,q166,q165,q167,qon,q50,q51,q3m,q45,q169,q168,q16a,qoh,q4c,q4d,q4e,q4f,q4g,q4h,q3g,q3z,q15h,q15g,q15i,q15j,q15k,q15l,q15m,qoj,q4j,q4k,q4o,q4p,q4q,q4r,q4s,q4t,q4u,q4v,q4l,q4m,q4n,q3i,q41,q15p,q15o,q15u,q15t,q15v,q15w,q15x,q15y,q15z,q160,q161,q162,q15q,q15r,q15s,qoi,q4i,q3h,q40,q15n,flQ,Sum.elim_inl]
   exact ⟨ho,by omega,by omega,hz,λ_=>trivial⟩
 |succ m ih =>
  intro s f out l hm ho hb hf hz
  refine .via qht ?_
  unfold qhy
  try simp only [gL,dL,p0,aL,dQ]
  refine qu7 (λh=>?_) (λ_=>qu9 (by simp [EC.decL_encL,EC.isL_encL,EC.encL_length,qol,q4x,q3k,q43,q164,qoo,q52,q3n,q46,q16b,qom,q4y,q4z,q3l,q44,q166,q165,q167,qon,q50,q51,q3m,q45,q169,q168,q16a,qoh,q4c,q4d,q4e,q4f,q4g,q4h,q3g,q3z,q15h,q15g,q15i,q15j,q15k,q15l,q15m,qoj,q4j,q4k,q4o,q4p,q4q,q4r,q4s,q4t,q4u,q4v,q4l,q4m,q4n,q3i,q41,q15p,q15o,q15u,q15t,q15v,q15w,q15x,q15y,q15z,q160,q161,q162,q15q,q15r,q15s,qoi,q4i,q3h,q40,q15n]) (qua ?_))
  ·have h78:=of_decide_eq_true h
   refine qu6 (qv6 s (by omega) f (by omega)) λr hr=>?_
   obtain ⟨p0,p1⟩:=hr
   refine qu7 (λ_=>qu9 (by simp [EC.decL_encL,EC.isL_encL,EC.encL_length,qol,q4x,q3k,q43,q164,qoo,q52,q3n,q46,q16b,qom,q4y,q4z,q3l,q44,q166,q165,q167,qon,q50,q51,q3m,q45,q169,q168,q16a,qoh,q4c,q4d,q4e,q4f,q4g,q4h,q3g,q3z,q15h,q15g,q15i,q15j,q15k,q15l,q15m,qoj,q4j,q4k,q4o,q4p,q4q,q4r,q4s,q4t,q4u,q4v,q4l,q4m,q4n,q3i,q41,q15p,q15o,q15u,q15t,q15v,q15w,q15x,q15y,q15z,q160,q161,q162,q15q,q15r,q15s,qoi,q4i,q3h,q40,q15n]) (qua ?_)) (λhne=>?_)
   ·simp only [x25q,x26q,x27q,qol,q4x,q3k,q43,q164,qoo,q52,q3n,q46,q16b,qom,q4y,q4z,q3l,q44,q166,q165,q167,qon,q50,q51,q3m,q45,q169,q168,q16a,qoh,q4c,q4d,q4e,q4f,q4g,q4h,q3g,q3z,q15h,q15g,q15i,q15j,q15k,q15l,q15m,qoj,q4j,q4k,q4o,q4p,q4q,q4r,q4s,q4t,q4u,q4v,q4l,q4m,q4n,q3i,q41,q15p,q15o,q15u,q15t,q15v,q15w,q15x,q15y,q15z,q160,q161,q162,q15q,q15r,q15s,qoi,q4i,q3h,q40,q15n,flQ,Sum.elim_inr]
    exact ⟨ho,by omega,by omega,hz,λh=>by omega⟩
   ·have hne:r≠0:=by simpa using hne
    have hz1:(s.extract r.toNat s.size).size=s.size - r.toNat:=by rw [ByteArray.size_extract];omega
    have hz2:(s.extract 0 r.toNat).size<=100000:=by rw [ByteArray.size_extract];omega
    simp only [x25q,x26q,x27q,qol,q4x,q3k,q43,q164,qoo,q52,q3n,q46,q16b,qom,q4y,q4z,q3l,q44,q166,q165,q167,qon,q50,q51,q3m,q45,q169,q168,q16a,qoh,q4c,q4d,q4e,q4f,q4g,q4h,q3g,q3z,q15h,q15g,q15i,q15j,q15k,q15l,q15m,qoj,q4j,q4k,q4o,q4p,q4q,q4r,q4s,q4t,q4u,q4v,q4l,q4m,q4n,q3i,q41,q15p,q15o,q15u,q15t,q15v,q15w,q15x,q15y,q15z,q160,q161,q162,q15q,q15r,q15s,qoi,q4i,q3h,q40,q15n]
    refine qu9 (by simp;omega) (qu9 (by simp;omega) (qu9 (by simp;omega) ?_))
    refine (ih _ 0 (out+1) (l++[s.extract 0 r.toNat]) (by rw [hz1];omega) (by simp [ho]) (by rw [hz1];omega) (by omega) (q1a6 hz hz2)).mono λx hx=>⟨hx.1,hx.2.1,hx.2.2.1,hx.2.2.2.1,λh=>by omega⟩
  ·simp only [x25q,x26q,x27q,qol,q4x,q3k,q43,q164,qoo,q52,q3n,q46,q16b,qom,q4y,q4z,q3l,q44,q166,q165,q167,qon,q50,q51,q3m,q45,q169,q168,q16a,qoh,q4c,q4d,q4e,q4f,q4g,q4h,q3g,q3z,q15h,q15g,q15i,q15j,q15k,q15l,q15m,qoj,q4j,q4k,q4o,q4p,q4q,q4r,q4s,q4t,q4u,q4v,q4l,q4m,q4n,q3i,q41,q15p,q15o,q15u,q15t,q15v,q15w,q15x,q15y,q15z,q160,q161,q162,q15q,q15r,q15s,qoi,q4i,q3h,q40,q15n,flQ,Sum.elim_inl]
   exact ⟨ho,by omega,by omega,hz,λ_=>trivial⟩
theorem qos (l:List BA) (k:Nat) (h:k<l.length):isP [K1.str] 0 ((qd2.encL l).getD k [])=true:=by rw [EC.getD_lt _ _ h];rfl
theorem q1em (out:Nat) (c d:Int) (l:List BA) (hl:l.length<=100001):∀ m k:Nat,k+m=l.length->Ok (qhj out l.length l.length k c d l) λx=>Sum.elim (λr=>r.1.1=0/\r.2.1=[]/\r.2.2.1=1/\¬ ∀ e∈l,e.size<=998) (λr=>r.1.2.1=out/\r.2.2=l) x:=by
 intro m
 induction m with
 |zero =>
  intro k hk
  refine .via qhl ?_
  unfold qhq
  try simp only [gL,dL,lN,wI,p0]
  refine qu7 (λh=>?_) (λ_=>qu9 (by simp [EC.decL_encL,EC.isL_encL,EC.encL_length,qol,q4x,q3k,q43,q164,qoo,q52,q3n,q46,q16b,qom,q4y,q4z,q3l,q44,q166,q165,q167,qon,q50,q51,q3m,q45,q169,q168,q16a,qoh,q4c,q4d,q4e,q4f,q4g,q4h,q3g,q3z,q15h,q15g,q15i,q15j,q15k,q15l,q15m,qoj,q4j,q4k,q4o,q4p,q4q,q4r,q4s,q4t,q4u,q4v,q4l,q4m,q4n,q3i,q41,q15p,q15o,q15u,q15t,q15v,q15w,q15x,q15y,q15z,q160,q161,q162,q15q,q15r,q15s,qoi,q4i,q3h,q40,q15n]) (qua ?_))
  ·have:=of_decide_eq_true h
   omega
  ·simp only [x25q,x26q,x27q,qol,q4x,q3k,q43,q164,qoo,q52,q3n,q46,q16b,qom,q4y,q4z,q3l,q44,q166,q165,q167,qon,q50,q51,q3m,q45,q169,q168,q16a,qoh,q4c,q4d,q4e,q4f,q4g,q4h,q3g,q3z,q15h,q15g,q15i,q15j,q15k,q15l,q15m,qoj,q4j,q4k,q4o,q4p,q4q,q4r,q4s,q4t,q4u,q4v,q4l,q4m,q4n,q3i,q41,q15p,q15o,q15u,q15t,q15v,q15w,q15x,q15y,q15z,q160,q161,q162,q15q,q15r,q15s,qoi,q4i,q3h,q40,q15n,Sum.elim_inr,and_self]
 |succ m ih =>
  intro k hk
  have hlt:k<l.length:=by omega
  have e2:IntKind.i64.wrap ((k:Int)+1)=((k+1:Nat):Int):=by rw [q1es (by omega)];rfl
  refine .via qhl ?_
  unfold qhq
  try simp only [gL,dL,lN,wI,p0]
  simp only [x25q,x26q,x27q,qol,q4x,q3k,q43,q164,qoo,q52,q3n,q46,q16b,qom,q4y,q4z,q3l,q44,q166,q165,q167,qon,q50,q51,q3m,q45,q169,q168,q16a,qoh,q4c,q4d,q4e,q4f,q4g,q4h,q3g,q3z,q15h,q15g,q15i,q15j,q15k,q15l,q15m,qoj,q4j,q4k,q4o,q4p,q4q,q4r,q4s,q4t,q4u,q4v,q4l,q4m,q4n,q3i,q41,q15p,q15o,q15u,q15t,q15v,q15w,q15x,q15y,q15z,q160,q161,q162,q15q,q15r,q15s,qoi,q4i,q3h,q40,q15n,x3q,e2]
  refine qu7 (λh=>?_) (λh=>?_)
  ·refine qu9 (by simp;omega) (qu9 (by rw [len_9 l k hlt];simp [hlt]) (qu9 (qos l k hlt) ?_))
   refine qu7 (λhw=>?_) (λ_=>?_)
   ·refine qu6 (qgc _ _) λr hr=>qua ?_
    subst hr
    refine ⟨rfl,rfl,rfl,λhall=>?_⟩
    have h1:=hall l[k] (List.getElem_mem hlt)
    have h2:=of_decide_eq_true hw
    rw [qk6 hlt] at h2
    omega
   ·exact qu9 rfl (ih (k+1) (by omega))
  ·have:=of_decide_eq_false h
   omega
end Go.Proofs.YtmlcmoaonaomfaaGreatDoor
namespace Go.Proofs.YtmlcmoaonaomfaaGreatDoor
set_option linter.unusedSimpArgs false
open Go.RowKit
def foldP (n v:BA) (r:(Nat×(Int×Int))×List BA):Prop:=r.1.1=r.2.length/\r.1.1<=100001/\szB r.2/\(r.1.2.1=0->fnameB n=true/\v.size<=4000/\noSp (L v))/\(fnameB n=true->v.size=0->r.1.2.1=0)
theorem qin (n v:BA):Ok (qhz n v) (foldP n v):=.via qhi (by
 unfold qi0
 try simp only [gL,dL,aL,dQ,dM]
 refine qu6 (qu8 (qhb n)) λr0 hr0=>?_
 subst hr0
 refine qu7 (λhb=>qu6 (qgc _ _) λr hr=>qua ?_) (λhb=>?_)
 ·subst hr
  have hb:fnameB n=false:=by simpa using hb
  exact ⟨rfl,by simp,(λe he=>by simp [EC.decL] at he),(λh=>by simp at h),(λh=>by rw [hb] at h;cases h)⟩
 ·have hb:fnameB n=true:=by simpa using hb
  have hn:n.size<=60:=by
   unfold fnameB at hb
   rw [x6q,x6q] at hb
   have:=of_decide_eq_true hb.2.1
   omega
  refine qu7 (λhv=>qu6 (qgc _ _) λr hr=>qua ?_) (λhv=>?_)
  ·subst hr
   have:=of_decide_eq_true hv
   exact ⟨rfl,by simp,(λe he=>by simp [EC.decL] at he),(λh=>by simp at h),(λ_ h=>by omega)⟩
  ·have hv4:v.size<=4000:=by have:=of_decide_eq_false hv;omega
   refine qu6 (q1eb v (by omega)) λr1 hr1=>qu7 (λhb1=>qu6 (qgc _ _) λr hr=>qua ?_) (λhb1=>?_)
   ·subst hr
    exact ⟨rfl,by simp,(λe he=>by simp [EC.decL] at he),(λh=>by simp at h),(λ_ h=>by rw [hr1.1 h] at hb1;cases hb1)⟩
   ·have hc2:(ByteArray.mk (List.toArray [58,32])).size=2:=rfl
    have hsz:((n++(ByteArray.mk (List.toArray [58,32])))++v).size=n.size+2+v.size:=by rw [ByteArray.size_append,ByteArray.size_append,hc2]
    have hsz1:(n++(ByteArray.mk (List.toArray [58,32]))).size=n.size+2:=by rw [ByteArray.size_append,hc2]
    rw [maxI,hc2,hsz1]
    refine qu7 (λh=>absurd (of_decide_eq_true h) (by omega)) (λ_=>qu7 (λh=>absurd (of_decide_eq_true h) (by omega)) (λ_=>?_))
    have hw:IntKind.i64.wrap ((n.size:Int)+2)=((n.size+2:Nat):Int):=by rw [q1es (by omega)];rfl
    rw [hw,qj]
    refine qu6 (qia _ _ _ 0 [] (Nat.le_refl _) rfl (by rw [hsz];omega) (by omega) (λe he=>by cases he)) ?_
    intro r hr
    have fin:∀ (c d:Int) (s:BA) (o:Nat) (l:List BA),o=l.length->o<=100000->s.size<=100000->szB l->(n.size+2+v.size<=78->s.size<=78/\l=[]) ->
      Ok (Option.bind (qhj (o+1) (o+1) (((o+1:Nat)):Int) 0 c d (l++[s])) λr4=>Sum.elim (λr5=>some ((r5.1.1,(r5.2.2.1,r5.2.2.2)),r5.2.1)) (λr5=>Option.bind q73 λr6=>some ((r5.1.2.1,(r6.1,r6.2)),r5.2.2)) r4) (foldP n v):=by
     intro c d s o l ho h1 h2 h3 h4
     have hl:(l++[s]).length=o+1:=by simp [ho]
     have hz:=q1a6 h3 h2
     have hwd:=q1em (o+1) c d (l++[s]) (by omega) (l++[s]).length 0 (by omega)
     rw [hl] at hwd
     refine qu6 hwd ?_
     rintro (x|x) hx
     ·obtain ⟨x1,x2,x3,x4⟩:=hx
      refine qua ⟨by rw [x1,x2];rfl,by rw [x1];omega,by rw [x2];exact (λe he=>by cases he),(λh=>by rw [x3] at h;cases h),(λ_ h0=>absurd (λe he=>?_) x4)⟩
      obtain ⟨g1,g2⟩:=h4 (by omega)
      subst g2
      have:e=s:=by simpa using he
      rw [this];omega
     ·obtain ⟨x1,x2⟩:=hx
      refine qu6 qtj λr6 hr6=>qua ?_
      subst hr6
      exact ⟨by rw [x1,x2,hl],by rw [x1];omega,by rw [x2];exact hz,(λ_=>⟨hb,hv4,hr1.2 (by simpa using hb1)⟩),(λ_ _=>rfl)⟩
    rcases r with r|r
    ·obtain ⟨q1,q2,q3,q4,q5⟩:=hr
     simp only [flQ,Sum.elim_inl] at q1 q2 q3 q4 q5
     have hf:=fin r.2.1.1 r.2.1.2 r.1.2.1 r.1.2.2.2.1 r.2.2 q1 q2 q3 q4 (λh=>by
      have:=q5 (by rw [hsz];omega)
      rw [Prod.mk.injEq,Prod.mk.injEq] at this
      rw [this.1,this.2.2]
      exact ⟨by rw [hsz];omega,rfl⟩)
     show Ok (gdE _ _) _
     refine qu9 (by simp [EC.decL_encL,EC.isL_encL,EC.encL_length,qol,q4x,q3k,q43,q164,qoo,q52,q3n,q46,q16b,qom,q4y,q4z,q3l,q44,q166,q165,q167,qon,q50,q51,q3m,q45,q169,q168,q16a,qoh,q4c,q4d,q4e,q4f,q4g,q4h,q3g,q3z,q15h,q15g,q15i,q15j,q15k,q15l,q15m,qoj,q4j,q4k,q4o,q4p,q4q,q4r,q4s,q4t,q4u,q4v,q4l,q4m,q4n,q3i,q41,q15p,q15o,q15u,q15t,q15v,q15w,q15x,q15y,q15z,q160,q161,q162,q15q,q15r,q15s,qoi,q4i,q3h,q40,q15n];omega) (qu9 (by simp [EC.decL_encL,EC.isL_encL,EC.encL_length,qol,q4x,q3k,q43,q164,qoo,q52,q3n,q46,q16b,qom,q4y,q4z,q3l,q44,q166,q165,q167,qon,q50,q51,q3m,q45,q169,q168,q16a,qoh,q4c,q4d,q4e,q4f,q4g,q4h,q3g,q3z,q15h,q15g,q15i,q15j,q15k,q15l,q15m,qoj,q4j,q4k,q4o,q4p,q4q,q4r,q4s,q4t,q4u,q4v,q4l,q4m,q4n,q3i,q41,q15p,q15o,q15u,q15t,q15v,q15w,q15x,q15y,q15z,q160,q161,q162,q15q,q15r,q15s,qoi,q4i,q3h,q40,q15n]) ?_)
     simp only [x25q,x26q,x27q,qol,q4x,q3k,q43,q164,qoo,q52,q3n,q46,q16b,qom,q4y,q4z,q3l,q44,q166,q165,q167,qon,q50,q51,q3m,q45,q169,q168,q16a,qoh,q4c,q4d,q4e,q4f,q4g,q4h,q3g,q3z,q15h,q15g,q15i,q15j,q15k,q15l,q15m,qoj,q4j,q4k,q4o,q4p,q4q,q4r,q4s,q4t,q4u,q4v,q4l,q4m,q4n,q3i,q41,q15p,q15o,q15u,q15t,q15v,q15w,q15x,q15y,q15z,q160,q161,q162,q15q,q15r,q15s,qoi,q4i,q3h,q40,q15n,qk3,x20q]
     exact hf
    ·obtain ⟨q1,q2,q3,q4,q5⟩:=hr
     simp only [flQ,Sum.elim_inr] at q1 q2 q3 q4 q5
     have hf:=fin r.2.1.1 r.2.1.2 r.1.2.1 r.1.2.2.1 r.2.2 q1 q2 q3 q4 (λh=>by
      have:=q5 (by rw [hsz];omega)
      rw [Prod.mk.injEq,Prod.mk.injEq] at this
      rw [this.1,this.2.2]
      exact ⟨by rw [hsz];omega,rfl⟩)
     show Ok (gdE _ _) _
     refine qu9 (by simp [EC.decL_encL,EC.isL_encL,EC.encL_length,qol,q4x,q3k,q43,q164,qoo,q52,q3n,q46,q16b,qom,q4y,q4z,q3l,q44,q166,q165,q167,qon,q50,q51,q3m,q45,q169,q168,q16a,qoh,q4c,q4d,q4e,q4f,q4g,q4h,q3g,q3z,q15h,q15g,q15i,q15j,q15k,q15l,q15m,qoj,q4j,q4k,q4o,q4p,q4q,q4r,q4s,q4t,q4u,q4v,q4l,q4m,q4n,q3i,q41,q15p,q15o,q15u,q15t,q15v,q15w,q15x,q15y,q15z,q160,q161,q162,q15q,q15r,q15s,qoi,q4i,q3h,q40,q15n];omega) (qu9 (by simp [EC.decL_encL,EC.isL_encL,EC.encL_length,qol,q4x,q3k,q43,q164,qoo,q52,q3n,q46,q16b,qom,q4y,q4z,q3l,q44,q166,q165,q167,qon,q50,q51,q3m,q45,q169,q168,q16a,qoh,q4c,q4d,q4e,q4f,q4g,q4h,q3g,q3z,q15h,q15g,q15i,q15j,q15k,q15l,q15m,qoj,q4j,q4k,q4o,q4p,q4q,q4r,q4s,q4t,q4u,q4v,q4l,q4m,q4n,q3i,q41,q15p,q15o,q15u,q15t,q15v,q15w,q15x,q15y,q15z,q160,q161,q162,q15q,q15r,q15s,qoi,q4i,q3h,q40,q15n]) ?_)
     simp only [x25q,x26q,x27q,qol,q4x,q3k,q43,q164,qoo,q52,q3n,q46,q16b,qom,q4y,q4z,q3l,q44,q166,q165,q167,qon,q50,q51,q3m,q45,q169,q168,q16a,qoh,q4c,q4d,q4e,q4f,q4g,q4h,q3g,q3z,q15h,q15g,q15i,q15j,q15k,q15l,q15m,qoj,q4j,q4k,q4o,q4p,q4q,q4r,q4s,q4t,q4u,q4v,q4l,q4m,q4n,q3i,q41,q15p,q15o,q15u,q15t,q15v,q15w,q15x,q15y,q15z,q160,q161,q162,q15q,q15r,q15s,qoi,q4i,q3h,q40,q15n,qk3,x20q]
     exact hf)
def fieldB (x:S71):Prop:=fnameB x.Name=true/\x.Value.size<=4000/\noSp (L x.Value)
theorem qn2 (l:List S71) (hl:l.length<=60) (c d:Int):∀ m k:Nat,k+m=l.length->Ok (qli l l.length k c d) λx=>Sum.elim (λr=>r.2.1≠0) (λ_=>∀ x∈l.drop k,fieldB x) x:=by
 intro m
 induction m with
 |zero =>
  intro k hk
  refine .via qlk ?_
  unfold qlp
  try simp only [gL,dL,eC,wI,p0]
  refine qu7 (λh=>?_) (λ_=>qu9 (by simp [EC.decL_encL,EC.isL_encL,EC.encL_length,qol,q4x,q3k,q43,q164,qoo,q52,q3n,q46,q16b,qom,q4y,q4z,q3l,q44,q166,q165,q167,qon,q50,q51,q3m,q45,q169,q168,q16a,qoh,q4c,q4d,q4e,q4f,q4g,q4h,q3g,q3z,q15h,q15g,q15i,q15j,q15k,q15l,q15m,qoj,q4j,q4k,q4o,q4p,q4q,q4r,q4s,q4t,q4u,q4v,q4l,q4m,q4n,q3i,q41,q15p,q15o,q15u,q15t,q15v,q15w,q15x,q15y,q15z,q160,q161,q162,q15q,q15r,q15s,qoi,q4i,q3h,q40,q15n]) (qua ?_))
  ·have:=of_decide_eq_true h
   omega
  ·rw [List.drop_eq_nil_of_le (by omega)]
   intro x hx;cases hx
 |succ m ih =>
  intro k hk
  have hlt:k<l.length:=by omega
  have e2:IntKind.i64.wrap ((k:Int)+1)=((k+1:Nat):Int):=by rw [q1es (by omega)];rfl
  refine .via qlk ?_
  unfold qlp
  try simp only [gL,dL,eC,wI,p0]
  simp only [x25q,x26q,x27q,qol,q4x,q3k,q43,q164,qoo,q52,q3n,q46,q16b,qom,q4y,q4z,q3l,q44,q166,q165,q167,qon,q50,q51,q3m,q45,q169,q168,q16a,qoh,q4c,q4d,q4e,q4f,q4g,q4h,q3g,q3z,q15h,q15g,q15i,q15j,q15k,q15l,q15m,qoj,q4j,q4k,q4o,q4p,q4q,q4r,q4s,q4t,q4u,q4v,q4l,q4m,q4n,q3i,q41,q15p,q15o,q15u,q15t,q15v,q15w,q15x,q15y,q15z,q160,q161,q162,q15q,q15r,q15s,qoi,q4i,q3h,q40,q15n,x3q,e2]
  refine qu7 (λh=>?_) (λh=>?_)
  ·refine qu9 (by simp) (qu9 (by simp [hlt]) ?_)
   refine qu6 (qin _ _) λr hr=>?_
   rw [qk6 hlt] at hr
   refine qu6 (qu8 (qgb _ _)) λr1 hr1=>?_
   subst hr1
   refine qu7 (λhb=>qu6 (qgc _ _) λr2 hr2=>qua ?_) (λhb=>?_)
   ·subst hr2
    show r.1.2.1≠0
    simpa using hb
   ·have h0:r.1.2.1=0:=by simpa using hb
    refine qu9 rfl ((ih (k+1) (by omega)).mono λx hx=>?_)
    rcases x with x|x
    ·exact hx
    ·show ∀ y∈l.drop k,fieldB y
     rw [qcs hlt]
     intro y hy
     rcases List.mem_cons.1 hy with rfl|hy
     ·exact hr.2.2.2.1 h0
     ·exact hx y hy
  ·have:=of_decide_eq_false h
   omega
def hvalP (l:List S71) (r:Int×Int):Prop:=r.1=0->l.length<=60/\∀ x∈l,fieldB x
theorem qn3 (l:List S71):Ok (qlq l) (hvalP l):=.via qlh (by
 unfold qlr
 try simp only [gL,dL,lN]
 simp only [x25q,x26q,x27q,qol,q4x,q3k,q43,q164,qoo,q52,q3n,q46,q16b,qom,q4y,q4z,q3l,q44,q166,q165,q167,qon,q50,q51,q3m,q45,q169,q168,q16a,qoh,q4c,q4d,q4e,q4f,q4g,q4h,q3g,q3z,q15h,q15g,q15i,q15j,q15k,q15l,q15m,qoj,q4j,q4k,q4o,q4p,q4q,q4r,q4s,q4t,q4u,q4v,q4l,q4m,q4n,q3i,q41,q15p,q15o,q15u,q15t,q15v,q15w,q15x,q15y,q15z,q160,q161,q162,q15q,q15r,q15s,qoi,q4i,q3h,q40,q15n]
 refine qu7 (λh=>qu6 (qgc _ _) λr hr=>qua ?_) (λh=>qu9 rfl ?_)
 ·subst hr
  intro h;cases h
 ·have hl:l.length<=60:=by have:=of_decide_eq_false h;omega
  refine qu6 (qn2 l hl 0 0 l.length 0 (by omega)) ?_
  rintro (r|r) hr
  ·exact qua (λh=>absurd h hr)
  ·refine qu6 qtj λr2 hr2=>qua ?_
   intro _
   exact ⟨hl,by rw [x10q] at hr;exact hr⟩)
theorem qmc (s:BA):Ok (qlw s) λr=>r=fnameB s:=.via qlv (by
 unfold qlx
 refine qu6 (qin _ _) λr hr=>?_
 refine qu6 (qu8 (qgb _ _)) λr1 hr1=>qua ?_
 subst hr1
 obtain ⟨_,_,_,h1,h2⟩:=hr
 cases hb:fnameB s with
 |true=>rw [h2 hb rfl];rfl
 |false =>
  have:r.1.2.1≠0:=λh=>by rw [(h1 h).1] at hb;cases hb
  simpa using this)
end Go.Proofs.YtmlcmoaonaomfaaGreatDoor
