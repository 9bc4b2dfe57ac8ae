/- Addresses and envelopes: what the checks answer. -/
import Derived.Test.YtmlcmoaonaomfaaGreatDoorZ27
namespace Go.Proofs.YtmlcmoaonaomfaaGreatDoor
set_option linter.unusedSimpArgs false
open Go.RowKit
theorem qkk (s p:BA):Ok (q18z s p) λ_=>True:=.via q18y (by
 unfold q190
 refine qu6 (P:=λ_=>True) (.via q19g ?_) λr _=>qua trivial
 unfold q19i
 try simp only [p0]
 refine qu7 (λh=>qu9 ?_ (qua trivial)) (λ_=>qua trivial)
 simp at h ⊢
 exact h)
theorem qks (s p:BA) (hs:s.size<=2000000):Ok (q195 s p) λ_=>True:=.via q194 (by
 unfold q196
 refine qu6 (P:=λ_=>True) (.via q19m ?_) λr _=>qua trivial
 unfold q19o
 refine qu7 (λh=>qu9 ?_ (qua trivial)) (λ_=>qua trivial)
 have h:(s.size:Int)≥(p.size:Int):=by simpa using h
 rw [q1es (by omega)]
 simp
 omega)
theorem qt1 (s:BA):Ok (q6x s) λ_=>True:=.via q6w (by
 unfold q6y
 refine qu7 (λ_=>qu7 (λh=>?_) (λ_=>qua trivial)) (λ_=>qua trivial)
 have h:(s.size:Int)<=60:=by simpa using h
 exact qu6 (qu8 (q3d s (by omega))) λr _=>qua trivial)
theorem qcp (s:BA):Ok (qe2 s) λr=>r=true->s.size<=60:=.via qe1 (by
 unfold qe3
 refine qu7 (λ_=>qu7 (λh=>?_) (λ_=>qua (λh=>by cases h))) (λ_=>qua (λh=>by cases h))
 have h:(s.size:Int)<=60:=by simpa using h
 have hs:s.size<=60:=by omega
 refine qu6 (qu8 (q1x s (by omega))) λr _=>?_
 refine qu7 (λ_=>qu6 (qkk _ _) λr1 _=>qu7 (λ_=>qu6 (qks _ _ (by omega)) λr2 _=>qu7 (λ_=>?_) (λ_=>qua (λ_=>hs))) (λ_=>qua (λ_=>hs))) (λ_=>qua (λ_=>hs))
 refine qu6 (P:=λ_=>True) ⟨_,by unfold contP;rw [if_pos (by omega)],trivial⟩ λr3 _=>qua (λ_=>hs))
theorem qbv (s sep:List UInt8) (h:(Lib.cut s sep).2.2=true):(Lib.cut s sep).1.length+sep.length+(Lib.cut s sep).2.1.length=s.length:=by
 unfold Lib.cut at *
 split at h
 ·rename_i h0
  rw [if_pos h0]
  have:=Lib.index_room s sep h0
  simp only [List.length_drop,List.length_take]
  omega
 ·cases h
theorem q17z (s:BA) (hs:s.size<=2000000):Ok (qey s) λr=>r.2.2=true->s.size<=121:=.via qex (by
 unfold qez
 have hc:=qbv s.data.toList [64]
 refine qu6 (P:=λr:BA×BA×Bool=>r.2.2=true->r.1.size+1+r.2.1.size=s.size) ⟨_,by unfold cutP;rw [if_pos (by omega)],λh=>?_⟩ λr hr=>?_
 ·have:=hc h
  have e:s.data.toList.length=s.size:=by rw [x24q];rfl
  rw [e] at this
  exact this
 ·refine qu7 (λhk=>?_) (λ_=>qua (λh=>by cases h))
  have hk:=hr (by simpa using hk)
  refine qu7 (λ_=>qu7 (λh=>?_) (λ_=>qua (λh=>by cases h))) (λ_=>qua (λh=>by cases h))
  have h:(r.1.size:Int)<=60:=by simpa using h
  refine qu6 (qu8 (q2w r.1 (by omega))) λr1 _=>qu7 (λ_=>?_) (λ_=>qua (λh=>by cases h))
  exact qu6 (qcp _) λr2 h2=>qua (λh3=>by have:=h2 h3;omega))
theorem q11 (s:BA) (hs:s.size<=2000000):Ok (qdq s) λr=>r=true->s.size<=121:=.via qdp (by
 unfold qdr
 exact qu6 (q17z s hs) λr h=>qua h)
theorem qtm (n:Int):Ok (qe8 n) λ_=>True:=.via qe7 (by
 unfold qe9
 exact qu7 (λ_=>qua trivial) (λ_=>qua trivial))
theorem qni (l:List S73) (hl:l.length<=2000000) (f:BA) (n:Int):∀ m k:Nat,k+m=l.length->Ok (qna l f n l.length k) λ_=>True:=by
 intro m
 induction m with
 |zero =>
  intro k hk
  refine .via qnc ?_
  unfold qnh
  try simp only [gL,dL,eC,wI,p0]
  refine qu7 (λh=>?_) (λ_=>qu9 (by simp [EC.decL_encL,EC.isL_encL,EC.encL_length,qol,q4x,q3k,q43,q164,qoo,q52,q3n,q46,q16b,qom,q4y,q4z,q3l,q44,q166,q165,q167,qon,q50,q51,q3m,q45,q169,q168,q16a,qoh,q4c,q4d,q4e,q4f,q4g,q4h,q3g,q3z,q15h,q15g,q15i,q15j,q15k,q15l,q15m,qoj,q4j,q4k,q4o,q4p,q4q,q4r,q4s,q4t,q4u,q4v,q4l,q4m,q4n,q3i,q41,q15p,q15o,q15u,q15t,q15v,q15w,q15x,q15y,q15z,q160,q161,q162,q15q,q15r,q15s,qoi,q4i,q3h,q40,q15n]) (qua trivial))
  have:=of_decide_eq_true h
  omega
 |succ m ih =>
  intro k hk
  have hlt:k<l.length:=by omega
  have e2:IntKind.i64.wrap ((k:Int)+1)=((k+1:Nat):Int):=by rw [q1es (by omega)];rfl
  refine .via qnc ?_
  unfold qnh
  try simp only [gL,dL,eC,wI,p0]
  simp only [x25q,x26q,x27q,qol,q4x,q3k,q43,q164,qoo,q52,q3n,q46,q16b,qom,q4y,q4z,q3l,q44,q166,q165,q167,qon,q50,q51,q3m,q45,q169,q168,q16a,qoh,q4c,q4d,q4e,q4f,q4g,q4h,q3g,q3z,q15h,q15g,q15i,q15j,q15k,q15l,q15m,qoj,q4j,q4k,q4o,q4p,q4q,q4r,q4s,q4t,q4u,q4v,q4l,q4m,q4n,q3i,q41,q15p,q15o,q15u,q15t,q15v,q15w,q15x,q15y,q15z,q160,q161,q162,q15q,q15r,q15s,qoi,q4i,q3h,q40,q15n,x3q,e2]
  refine qu7 (λh=>?_) (λh=>?_)
  ·refine qu9 (by simp) (qu9 (by simp [hlt]) ?_)
   refine qu6 (P:=λ_=>True) (.via qxk (qua trivial)) λr _=>qu7 (λ_=>qua trivial) (λ_=>qu9 rfl (ih (k+1) (by omega)))
  ·have:=of_decide_eq_false h
   omega
theorem qkp (l:List S73) (hl:l.length<=2000000) (f:BA) (n:Int):Ok (qkq l f n) λ_=>True:=.via qko (by
 unfold qkr
 try simp only [gL,dL]
 simp only [x25q,x26q,x27q,qol,q4x,q3k,q43,q164,qoo,q52,q3n,q46,q16b,qom,q4y,q4z,q3l,q44,q166,q165,q167,qon,q50,q51,q3m,q45,q169,q168,q16a,qoh,q4c,q4d,q4e,q4f,q4g,q4h,q3g,q3z,q15h,q15g,q15i,q15j,q15k,q15l,q15m,qoj,q4j,q4k,q4o,q4p,q4q,q4r,q4s,q4t,q4u,q4v,q4l,q4m,q4n,q3i,q41,q15p,q15o,q15u,q15t,q15v,q15w,q15x,q15y,q15z,q160,q161,q162,q15q,q15r,q15s,qoi,q4i,q3h,q40,q15n]
 refine qu9 rfl (qu6 (P:=λ_=>True) (.via qn9 ?_) λr _=>qua trivial)
 unfold qnk
 try simp only [gL,dL,lN]
 simp only [x25q,x26q,x27q,qol,q4x,q3k,q43,q164,qoo,q52,q3n,q46,q16b,qom,q4y,q4z,q3l,q44,q166,q165,q167,qon,q50,q51,q3m,q45,q169,q168,q16a,qoh,q4c,q4d,q4e,q4f,q4g,q4h,q3g,q3z,q15h,q15g,q15i,q15j,q15k,q15l,q15m,qoj,q4j,q4k,q4o,q4p,q4q,q4r,q4s,q4t,q4u,q4v,q4l,q4m,q4n,q3i,q41,q15p,q15o,q15u,q15t,q15v,q15w,q15x,q15y,q15z,q160,q161,q162,q15q,q15r,q15s,qoi,q4i,q3h,q40,q15n]
 refine qu9 rfl (qu6 (qni l hl f n l.length 0 (by omega)) ?_)
 rintro (r|r) _
 ·exact qua trivial
 ·exact qua trivial)
theorem qxn (l:List S73) (hl:l.length<=2000000) (ha:∀ x∈l,x.Address.size<=2000000) (c d:Int):∀ m k:Nat,k+m=l.length->Ok (qee l l l.length k c d) λx=>Sum.elim (λr=>r.2.1≠0) (λ_=>∀ x∈l.drop k,x.Address.size<=121) x:=by
 intro m
 induction m with
 |zero =>
  intro k hk
  refine .via qeg ?_
  unfold qel
  try simp only [gL,dL,lN,eC,wI,p0,aL]
  refine qu7 (λh=>?_) (λ_=>qu9 (by simp [EC.decL_encL,EC.isL_encL,EC.encL_length,qol,q4x,q3k,q43,q164,qoo,q52,q3n,q46,q16b,qom,q4y,q4z,q3l,q44,q166,q165,q167,qon,q50,q51,q3m,q45,q169,q168,q16a,qoh,q4c,q4d,q4e,q4f,q4g,q4h,q3g,q3z,q15h,q15g,q15i,q15j,q15k,q15l,q15m,qoj,q4j,q4k,q4o,q4p,q4q,q4r,q4s,q4t,q4u,q4v,q4l,q4m,q4n,q3i,q41,q15p,q15o,q15u,q15t,q15v,q15w,q15x,q15y,q15z,q160,q161,q162,q15q,q15r,q15s,qoi,q4i,q3h,q40,q15n]) (qu9 (by simp [EC.decL_encL,EC.isL_encL,EC.encL_length,qol,q4x,q3k,q43,q164,qoo,q52,q3n,q46,q16b,qom,q4y,q4z,q3l,q44,q166,q165,q167,qon,q50,q51,q3m,q45,q169,q168,q16a,qoh,q4c,q4d,q4e,q4f,q4g,q4h,q3g,q3z,q15h,q15g,q15i,q15j,q15k,q15l,q15m,qoj,q4j,q4k,q4o,q4p,q4q,q4r,q4s,q4t,q4u,q4v,q4l,q4m,q4n,q3i,q41,q15p,q15o,q15u,q15t,q15v,q15w,q15x,q15y,q15z,q160,q161,q162,q15q,q15r,q15s,qoi,q4i,q3h,q40,q15n]) (qua ?_)))
  ·have:=of_decide_eq_true h
   omega
  ·rw [List.drop_eq_nil_of_le (by omega)]
   intro x hx;cases hx
 |succ m ih =>
  intro k hk
  have hlt:k<l.length:=by omega
  have e2:IntKind.i64.wrap ((k:Int)+1)=((k+1:Nat):Int):=by rw [q1es (by omega)];rfl
  refine .via qeg ?_
  unfold qel
  try simp only [gL,dL,lN,eC,wI,p0,aL]
  simp only [x25q,x26q,x27q,qol,q4x,q3k,q43,q164,qoo,q52,q3n,q46,q16b,qom,q4y,q4z,q3l,q44,q166,q165,q167,qon,q50,q51,q3m,q45,q169,q168,q16a,qoh,q4c,q4d,q4e,q4f,q4g,q4h,q3g,q3z,q15h,q15g,q15i,q15j,q15k,q15l,q15m,qoj,q4j,q4k,q4o,q4p,q4q,q4r,q4s,q4t,q4u,q4v,q4l,q4m,q4n,q3i,q41,q15p,q15o,q15u,q15t,q15v,q15w,q15x,q15y,q15z,q160,q161,q162,q15q,q15r,q15s,qoi,q4i,q3h,q40,q15n,x3q,e2,qk,qi]
  refine qu7 (λh=>?_) (λh=>?_)
  ·refine qu9 (by simp) (qu9 (by simp [hlt]) ?_)
   rw [qk6 hlt]
   refine qu6 (q11 _ (ha _ (List.getElem_mem hlt))) λr0 hr0=>qu7 (λ_=>qu6 (qgc _ _) λr1 hr1=>qua ?_) (λhb=>?_)
   ·subst hr1
    intro h;cases h
   ·refine qu6 (qtm _) λr1 _=>qu7 (λ_=>qu6 (qgc _ _) λr2 hr2=>qua ?_) (λ_=>?_)
    ·subst hr2
     intro h;cases h
    ·refine qu9 (by simp;omega) (qu9 (by simp [EC.decL_encL,EC.isL_encL,EC.encL_length,qol,q4x,q3k,q43,q164,qoo,q52,q3n,q46,q16b,qom,q4y,q4z,q3l,q44,q166,q165,q167,qon,q50,q51,q3m,q45,q169,q168,q16a,qoh,q4c,q4d,q4e,q4f,q4g,q4h,q3g,q3z,q15h,q15g,q15i,q15j,q15k,q15l,q15m,qoj,q4j,q4k,q4o,q4p,q4q,q4r,q4s,q4t,q4u,q4v,q4l,q4m,q4n,q3i,q41,q15p,q15o,q15u,q15t,q15v,q15w,q15x,q15y,q15z,q160,q161,q162,q15q,q15r,q15s,qoi,q4i,q3h,q40,q15n]) ?_)
     refine qu9 rfl (qu6 (qkp _ (by simp;omega) _ _) λr2 _=>qu7 (λ_=>qu6 (qgc _ _) λr3 hr3=>qua ?_) (λ_=>qu9 rfl (qu9 rfl ((ih (k+1) (by omega)).mono λx hx=>?_))))
     ·subst hr3
      intro h;cases h
     ·rcases x with x|x
      ·exact hx
      ·show ∀ y∈l.drop k,y.Address.size<=121
       rw [qcs hlt]
       intro y hy
       rcases List.mem_cons.1 hy with rfl|hy
       ·exact hr0 (by simpa using hb)
       ·exact hx y hy
  ·have:=of_decide_eq_false h
   omega
theorem qxo (l:List S73) (hl:l.length<=2000000) (ha:∀ x∈l,x.Address.size<=2000000):Ok (qem l) λr=>r.1=0->∀ x∈l,x.Address.size<=121:=.via qed (by
 unfold qen
 try simp only [gL,dL,lN]
 simp only [x25q,x26q,x27q,qol,q4x,q3k,q43,q164,qoo,q52,q3n,q46,q16b,qom,q4y,q4z,q3l,q44,q166,q165,q167,qon,q50,q51,q3m,q45,q169,q168,q16a,qoh,q4c,q4d,q4e,q4f,q4g,q4h,q3g,q3z,q15h,q15g,q15i,q15j,q15k,q15l,q15m,qoj,q4j,q4k,q4o,q4p,q4q,q4r,q4s,q4t,q4u,q4v,q4l,q4m,q4n,q3i,q41,q15p,q15o,q15u,q15t,q15v,q15w,q15x,q15y,q15z,q160,q161,q162,q15q,q15r,q15s,qoi,q4i,q3h,q40,q15n]
 refine qu9 rfl (qu9 rfl (qu6 (qxn l hl ha 0 0 l.length 0 (by omega)) ?_))
 rintro (r|r) hr
 ·exact qua (λh=>absurd h hr)
 ·refine qu6 qtj λr2 hr2=>qua ?_
  intro _
  rw [x10q] at hr
  exact hr)
def envB (f:BA) (l:List S73):Prop:=f.size<=121/\l.length<=60/\∀ x∈l,x.Address.size<=121
theorem env_ok (f:BA) (l:List S73) (i:BA) (hf:f.size<=2000000) (hl:l.length<=2000000) (ha:∀ x∈l,x.Address.size<=2000000):Ok (qf4 f l i) λr=>r.1=0->envB f l:=.via qf3 (by
 unfold qf5
 try simp only [gL,dL,lN]
 simp only [x25q,x26q,x27q,qol,q4x,q3k,q43,q164,qoo,q52,q3n,q46,q16b,qom,q4y,q4z,q3l,q44,q166,q165,q167,qon,q50,q51,q3m,q45,q169,q168,q16a,qoh,q4c,q4d,q4e,q4f,q4g,q4h,q3g,q3z,q15h,q15g,q15i,q15j,q15k,q15l,q15m,qoj,q4j,q4k,q4o,q4p,q4q,q4r,q4s,q4t,q4u,q4v,q4l,q4m,q4n,q3i,q41,q15p,q15o,q15u,q15t,q15v,q15w,q15x,q15y,q15z,q160,q161,q162,q15q,q15r,q15s,qoi,q4i,q3h,q40,q15n,em_def]
 have rest:f.size<=121->l.length<=60->Ok (brE ((!em i)==true) (Option.bind (q6x i) λr0=>brE (!r0) (Option.bind (q62 10 (-12)) λr1=>some (r1.1,r1.2)) (gdE true<| Option.bind (qem l) λr1=>some (r1.1,r1.2))) (gdE true<| Option.bind (qem l) λr0=>some (r0.1,r0.2))) λr=>r.1=0->envB f l:=by
  intro h1 h2
  have fin:Ok (gdE true<| Option.bind (qem l) λr0=>some (r0.1,r0.2)) λr=>r.1=0->envB f l:=qu9 rfl (qu6 (qxo l hl ha) λr hr=>qua λh=>⟨h1,h2,hr h⟩)
  refine qu7 (λ_=>qu6 (qt1 _) λr _=>qu7 (λ_=>qu6 (qgc _ _) λr1 hr1=>qua ?_) (λ_=>fin)) (λ_=>fin)
  subst hr1
  intro h;cases h
 have bad:∀ a b:Int,a≠0->Ok (Option.bind (q62 a b) λr1=>some (r1.1,r1.2)) λr=>r.1=0->envB f l:=λa b h0=>qu6 (qgc _ _) λr hr=>qua (by subst hr;exact λh=>absurd h h0)
 have rest2:f.size<=121->Ok (brE (decide ((l.length:Int)<1)==false) (brE (decide ((l.length:Int)>60)) (Option.bind (q62 2 (-11)) λr1=>some (r1.1,r1.2)) (brE ((!em i)==true) (Option.bind (q6x i) λr0=>brE (!r0) (Option.bind (q62 10 (-12)) λr1=>some (r1.1,r1.2)) (gdE true<| Option.bind (qem l) λr1=>some (r1.1,r1.2))) (gdE true<| Option.bind (qem l) λr0=>some (r0.1,r0.2)))) (Option.bind (q62 2 (-11)) λr1=>some (r1.1,r1.2))) λr=>r.1=0->envB f l:=λh1 =>
  qu7 (λ_=>qu7 (λ_=>bad _ _ (by decide)) (λh=>rest h1 (by have:=of_decide_eq_false h;omega))) (λ_=>bad _ _ (by decide))
 refine qu7 (λ_=>qu6 (q11 f hf) λr hr=>qu7 (λ_=>bad _ _ (by decide)) (λh=>rest2 (hr (by simpa using h)))) (λh=>rest2 ?_)
 have he:em f=true:=by cases h2:em f with|true=>rfl|false=>rw [h2] at h;cases h
 rw [qd4] at he
 have:=of_decide_eq_true he
 omega)
end Go.Proofs.YtmlcmoaonaomfaaGreatDoor
namespace Go.Proofs.YtmlcmoaonaomfaaGreatDoor
set_option linter.unusedSimpArgs false
open Go.RowKit
theorem nb_low (b:UInt8):nb (lowB b)=lowI (nb b):=by
 have h:=qr4 (nb_lt b).1 (nb_lt b).2
 unfold lowB ub
 generalize lowI (nb b)=c at h
 unfold nb
 rw [UInt8.toNat_ofNat']
 omega
theorem qh8 (c:Int):fnB (lowI c)=fnB c:=by
 unfold lowI fnB
 split
 ·rw [Bool.eq_iff_iff]
  simp
  omega
 ·rfl
theorem qha {a b:BA} (h:lowL (L a)=lowL (L b)):fnameB a=fnameB b:=by
 have hl:(L a).length=(L b).length:=by
  have:=congrArg List.length h
  simpa [lowL] using this
 have hs:a.size=b.size:=by rw [←qo,←qo,hl]
 have hp:∀ s:BA,(L s).all q2c=(lowL (L s)).all q2c:=by
  intro s
  unfold lowL
  rw [List.all_map]
  congr 1
  funext x
  show fnB (nb x)=fnB (nb (lowB x))
  rw [nb_low,qh8]
 unfold fnameB
 rw [qd4,qd4,hs,hp a,hp b,h]
def sm (n:BA) (x:S71):Bool:=lowL (L x.Name)==lowL (L n)
def valsL (l:List S71) (n:BA):List BA:=(l.filter (sm n)).map λx=>x.Value
theorem q1e9 (x:S71) (l:List S71) (n:BA):valsL (x::l) n=if sm n x=true then x.Value::valsL l n else valsL l n:=by
 unfold valsL
 rw [List.filter_cons]
 split <;> rfl
theorem qk9 (l:List S71) (n:BA) (hl:l.length<=60) (hn:n.size<=2000000) (hx:∀ x∈l,x.Name.size<=2000000) (c d:Int):∀ (m k:Nat) (acc:List BA),k+m=l.length->acc.length<=k->Ok (ql5 n acc.length l l.length k c d acc) λx=>x.2.2=acc++valsL (l.drop k) n/\x.1.2.2.1=x.2.2.length:=by
 intro m
 induction m with
 |zero =>
  intro k acc hk ha
  refine .via ql7 ?_
  unfold qlb
  try simp only [gL,dL,eC,wI,p0,aL,dQ]
  simp only [x25q,x26q,x27q,qol,q4x,q3k,q43,q164,qoo,q52,q3n,q46,q16b,qom,q4y,q4z,q3l,q44,q166,q165,q167,qon,q50,q51,q3m,q45,q169,q168,q16a,qoh,q4c,q4d,q4e,q4f,q4g,q4h,q3g,q3z,q15h,q15g,q15i,q15j,q15k,q15l,q15m,qoj,q4j,q4k,q4o,q4p,q4q,q4r,q4s,q4t,q4u,q4v,q4l,q4m,q4n,q3i,q41,q15p,q15o,q15u,q15t,q15v,q15w,q15x,q15y,q15z,q160,q161,q162,q15q,q15r,q15s,qoi,q4i,q3h,q40,q15n]
  refine qu7 (λh=>?_) (λ_=>qu9 rfl (qu9 rfl (qua ?_)))
  ·have:=of_decide_eq_true h
   omega
  ·rw [List.drop_eq_nil_of_le (by omega)]
   exact ⟨(List.append_nil _).symm,rfl⟩
 |succ m ih =>
  intro k acc hk ha
  have hlt:k<l.length:=by omega
  have e2:IntKind.i64.wrap ((k:Int)+1)=((k+1:Nat):Int):=by rw [q1es (by omega)];rfl
  refine .via ql7 ?_
  unfold qlb
  try simp only [gL,dL,eC,wI,p0,aL,dQ]
  simp only [x25q,x26q,x27q,qol,q4x,q3k,q43,q164,qoo,q52,q3n,q46,q16b,qom,q4y,q4z,q3l,q44,q166,q165,q167,qon,q50,q51,q3m,q45,q169,q168,q16a,qoh,q4c,q4d,q4e,q4f,q4g,q4h,q3g,q3z,q15h,q15g,q15i,q15j,q15k,q15l,q15m,qoj,q4j,q4k,q4o,q4p,q4q,q4r,q4s,q4t,q4u,q4v,q4l,q4m,q4n,q3i,q41,q15p,q15o,q15u,q15t,q15v,q15w,q15x,q15y,q15z,q160,q161,q162,q15q,q15r,q15s,qoi,q4i,q3h,q40,q15n,x3q,e2]
  refine qu7 (λh=>?_) (λh=>?_)
  ·refine qu9 (by simp) (qu9 (by simp [hlt]) ?_)
   rw [qk6 hlt]
   have h1:=hx _ (List.getElem_mem hlt)
   refine qu6 (qu8 (same_s l[k].Name n (by omega) (by omega))) λr hr=>?_
   rw [qcs hlt,q1e9]
   refine qu7 (λhb=>?_) (λhb=>?_)
   ·rw [hr] at hb
    have hb:sm n l[k]=true:=hb
    rw [if_pos hb]
    refine qu9 (by simp;omega) (qu9 rfl (qu9 rfl ?_))
    have:=ih (k+1) (acc++[l[k].Value]) (by omega) (by simp;omega)
    rw [x12q] at this
    refine this.mono λx h=>⟨by rw [h.1,List.append_assoc];rfl,h.2⟩
   ·rw [hr] at hb
    have hb:sm n l[k]=false:=hb
    rw [if_neg (by rw [hb];decide)]
    exact qu9 rfl (qu9 rfl (ih (k+1) acc (by omega) (by omega)))
  ·have:=of_decide_eq_false h
   omega
theorem qh9 {n:BA} (h:fnameB n=true):n.size<=60:=by
 unfold fnameB at h
 rw [x6q,x6q] at h
 have:=of_decide_eq_true h.2.1
 omega
structure HdrOk (l:List S71):Prop where
 val:∃ i,qlq l=some (0,i)
 len:l.length<=60
 all:∀ x∈l,fieldB x
theorem get_s {l:List S71} (h:HdrOk l) (n:BA) (hn:n.size<=2000000):Ok (qlc l n) λr=>r.2=valsL l n/\r.1.1=r.2.length:=.via ql4 (by
 obtain ⟨i,hv⟩:=h.val
 have hval:Ok (qm2 l n) λr=>(fnameB n=true->r.1=0)/\(fnameB n=false->r.1≠0):=.via qm1 (by
  unfold qm3
  try simp only [gL,dL]
  simp only [x25q,x26q,x27q,qol,q4x,q3k,q43,q164,qoo,q52,q3n,q46,q16b,qom,q4y,q4z,q3l,q44,q166,q165,q167,qon,q50,q51,q3m,q45,q169,q168,q16a,qoh,q4c,q4d,q4e,q4f,q4g,q4h,q3g,q3z,q15h,q15g,q15i,q15j,q15k,q15l,q15m,qoj,q4j,q4k,q4o,q4p,q4q,q4r,q4s,q4t,q4u,q4v,q4l,q4m,q4n,q3i,q41,q15p,q15o,q15u,q15t,q15v,q15w,q15x,q15y,q15z,q160,q161,q162,q15q,q15r,q15s,qoi,q4i,q3h,q40,q15n]
  refine qu9 rfl (qu6 (qu8 hv) λr hr=>?_)
  subst hr
  refine qu6 (qu8 (qgb _ _)) λr1 hr1=>?_
  subst hr1
  refine qu7 (λh=>by cases h) (λ_=>?_)
  refine qu6 (qmc n) λr2 hr2=>qu7 (λhb=>qu6 (qgc _ _) λr3 hr3=>qua ?_) (λhb=>qu6 qtj λr3 hr3=>qua ?_)
  ·subst hr3
   refine ⟨λh=>?_,λ_=>by decide⟩
   rw [hr2,h] at hb;cases hb
  ·subst hr3
   refine ⟨λ_=>rfl,λh=>?_⟩
   rw [hr2,h] at hb;cases hb)
 unfold qld
 try simp only [gL,dL,lN]
 simp only [x25q,x26q,x27q,qol,q4x,q3k,q43,q164,qoo,q52,q3n,q46,q16b,qom,q4y,q4z,q3l,q44,q166,q165,q167,qon,q50,q51,q3m,q45,q169,q168,q16a,qoh,q4c,q4d,q4e,q4f,q4g,q4h,q3g,q3z,q15h,q15g,q15i,q15j,q15k,q15l,q15m,qoj,q4j,q4k,q4o,q4p,q4q,q4r,q4s,q4t,q4u,q4v,q4l,q4m,q4n,q3i,q41,q15p,q15o,q15u,q15t,q15v,q15w,q15x,q15y,q15z,q160,q161,q162,q15q,q15r,q15s,qoi,q4i,q3h,q40,q15n,qj]
 refine qu9 rfl (qu6 hval λr0 hr0=>qu6 (qu8 (qgb _ _)) λr1 hr1=>?_)
 subst hr1
 have hemp:fnameB n=false->valsL l n=[]:=by
  intro hf
  unfold valsL
  have:l.filter (sm n)=[]:=by
   rw [List.filter_eq_nil_iff]
   intro x hx hs
   have:=qha (a:=x.Name) (b:=n) (by simpa [sm] using hs)
   rw [(h.all x hx).1,hf] at this
   cases this
  rw [this];rfl
 refine qu7 (λhb=>qua ?_) (λhb=>?_)
 ·have hf:fnameB n=false:=by
   cases hf:fnameB n with
   |true=>rw [hr0.1 hf] at hb;cases hb
   |false=>rfl
  exact ⟨(hemp hf).symm,rfl⟩
 ·refine qu9 rfl (qu6 (qk9 l n h.len hn (λx hx=>by have:=qh9 (h.all x hx).1;omega) 0 0 l.length 0 [] (by omega) (by simp)) λr2 hr2=>qu6 qtj λr3 hr3=>qu9 rfl (qua ?_))
  rw [x10q,List.nil_append] at hr2
  exact hr2)
end Go.Proofs.YtmlcmoaonaomfaaGreatDoor
