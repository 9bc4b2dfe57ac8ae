/- What the functions of freebusy answer, in plain words. -/
import Derived.Test.YtjlkjiifkganoaaH2
namespace Go.Proofs.Ytjlkjiifkganoaa
set_option linter.unusedSimpArgs false
open Go.RowKit
def timeB (t:Int):Bool:=decide (-68719476736≤t)&&decide (t≤68719476736)
theorem qc1 (a b:Int):q3k a b=some (a,b):=q3j rfl
theorem none_s:q3s=some (0,0):=q3r rfl
theorem qbz (a b:Int):q3e a b=some (a != 0):=q3d rfl
theorem time_s (t:Int):q3y t=some (timeB t):=q3x (by
 by_cases h1:-68719476736≤t <;> simp [q3z,q5n,timeB,h1] <;> omega)
def inB (n a b:Int):Bool:=decide (a≤n)&&decide (n≤b)
theorem in_s (n a b:Int):qlt n a b=some (inB n a b):=qls (by
 by_cases h1:a≤n <;> simp [qlu,q5n,inB,h1])
def perBad (p:Pd):Int:=if timeB p.From=false∨timeB p.To=false then 3 else if p.To<p.From then 19 else 0
def pfFrom:Nat→List Pd→Int×Int
 |_,[]=>(0,0)
 |k,p::l=>if perBad p=0 then pfFrom (k+1) l else (perBad p,(k:Int))
def perFault (l:List Pd):Int×Int:=if 500<l.length then (2,-1) else pfFrom 0 l
theorem q6y (l:List Pd) (hn:l.length≤9223372036854775807):∀ (m k:Nat),k+m=l.length →
  (qe3 l l.length k 0 0).bind (Sum.elim (fun x=>some (x.2.1,x.2.2)) (fun _=>some (0,0)))=some (pfFrom k (l.drop k)):=by
 intro m
 induction m with
 |zero =>
  intro k hk
  have:k=l.length:=by omega
  subst this
  have h1:qe3 l l.length l.length 0 0=some (.inr (((),l,(l.length:Int),(l.length:Int),false),(0,0))):=qe5 (by
   simp only [qea,q5n,qfl,EC.decL_encL,EC.isL_encL,EC.encL_length,qgv,q2i,q1l,q1x,qr7,q11y,q11d,q11e,q10j,q10m,q13m,q13l,q13n,q11w,q10n,q10o,q10h,q10k,q12s,q12r,q12t,qgy,q37,q38,q11g,q11h,q11i,q11j,q11k,q11l,q11m,q11n,q11f,q1o,q20,q13o,qrz,qs1,q13q,q13s,q13r,q13t,q13u,q13v,q13x,q13w,q13y,q13z,q13p,q11x,q10p,q10q,q111,q116,q117,q118,q119,q11a,q11b,q11c,q10r,q10s,q10t,q10u,q10v,q10w,q10x,q10y,q10z,q110,q112,q113,q114,q115,q10i,q10l,q12v,q12u,q137,q13c,q13d,q13e,q13f,q13g,q13h,q13j,q13i,q13k,q12w,q12x,q12y,q12z,q130,q131,q133,q132,q134,q135,q136,q138,q139,q13a,q13b]
   simp)
  rw [h1]
  simp [pfFrom]
 |succ m ih =>
  intro k hk
  have hlt:k<l.length:=by omega
  rw [qa0 hlt,pfFrom]
  have hk':(k:Int)<(l.length:Int):=by omega
  by_cases hp:perBad l[k]=0
  ·have h2:=ih (k+1) (by omega)
   obtain ⟨r,hr,h2⟩:=qsz h2
   have h1:qe3 l l.length k 0 0=some r:=qe5 (by
    simp only [qea,q5n,qfl,EC.decL_encL,EC.isL_encL,EC.encL_length,qgv,q2i,q1l,q1x,qr7,q11y,q11d,q11e,q10j,q10m,q13m,q13l,q13n,q11w,q10n,q10o,q10h,q10k,q12s,q12r,q12t,qgy,q37,q38,q11g,q11h,q11i,q11j,q11k,q11l,q11m,q11n,q11f,q1o,q20,q13o,qrz,qs1,q13q,q13s,q13r,q13t,q13u,q13v,q13x,q13w,q13y,q13z,q13p,q11x,q10p,q10q,q111,q116,q117,q118,q119,q11a,q11b,q11c,q10r,q10s,q10t,q10u,q10v,q10w,q10x,q10y,q10z,q110,q112,q113,q114,q115,q10i,q10l,q12v,q12u,q137,q13c,q13d,q13e,q13f,q13g,q13h,q13j,q13i,q13k,q12w,q12x,q12y,q12z,q130,q131,q133,q132,q134,q135,q136,q138,q139,q13a,q13b,Int.toNat_natCast,qfo hlt,time_s,qc1,Option.bind_some,qy6 hlt hn,hr,beq_f,beq_t]
    unfold perBad at hp
    cases h3:timeB l[k].From <;> cases h4:timeB l[k].To <;> by_cases h5:l[k].To<l[k].From <;> simp_all <;> (intro;omega))
   rw [if_pos hp,h1]
   exact h2
  ·have h1:qe3 l l.length k 0 0=some (.inl ((),(perBad l[k],(k:Int)))):=qe5 (by
    simp only [qea,q5n,qfl,EC.decL_encL,EC.isL_encL,EC.encL_length,qgv,q2i,q1l,q1x,qr7,q11y,q11d,q11e,q10j,q10m,q13m,q13l,q13n,q11w,q10n,q10o,q10h,q10k,q12s,q12r,q12t,qgy,q37,q38,q11g,q11h,q11i,q11j,q11k,q11l,q11m,q11n,q11f,q1o,q20,q13o,qrz,qs1,q13q,q13s,q13r,q13t,q13u,q13v,q13x,q13w,q13y,q13z,q13p,q11x,q10p,q10q,q111,q116,q117,q118,q119,q11a,q11b,q11c,q10r,q10s,q10t,q10u,q10v,q10w,q10x,q10y,q10z,q110,q112,q113,q114,q115,q10i,q10l,q12v,q12u,q137,q13c,q13d,q13e,q13f,q13g,q13h,q13j,q13i,q13k,q12w,q12x,q12y,q12z,q130,q131,q133,q132,q134,q135,q136,q138,q139,q13a,q13b,Int.toNat_natCast,qfo hlt,time_s,qc1,Option.bind_some,qy6 hlt hn,beq_f,beq_t]
    unfold perBad at hp ⊢
    cases h3:timeB l[k].From <;> cases h4:timeB l[k].To <;> by_cases h5:l[k].To<l[k].From <;> simp_all <;> (intro;omega))
   rw [if_neg hp,h1]
   rfl
theorem q6z (l:List Pd) (hn:l.length≤9223372036854775807):qeb l=some (perFault l):=qe2 (by
 have h:=q6y l hn l.length 0 (by omega)
 rw [List.drop_zero] at h
 simp only [Int.natCast_zero] at h
 obtain ⟨r,hr,h⟩:=qsz h
 simp only [qec,q5n,qfl,EC.decL_encL,EC.isL_encL,EC.encL_length,qgv,q2i,q1l,q1x,qr7,q11y,q11d,q11e,q10j,q10m,q13m,q13l,q13n,q11w,q10n,q10o,q10h,q10k,q12s,q12r,q12t,qgy,q37,q38,q11g,q11h,q11i,q11j,q11k,q11l,q11m,q11n,q11f,q1o,q20,q13o,qrz,qs1,q13q,q13s,q13r,q13t,q13u,q13v,q13x,q13w,q13y,q13z,q13p,q11x,q10p,q10q,q111,q116,q117,q118,q119,q11a,q11b,q11c,q10r,q10s,q10t,q10u,q10v,q10w,q10x,q10y,q10z,q110,q112,q113,q114,q115,q10i,q10l,q12v,q12u,q137,q13c,q13d,q13e,q13f,q13g,q13h,q13j,q13i,q13k,q12w,q12x,q12y,q12z,q130,q131,q133,q132,q134,q135,q136,q138,q139,q13a,q13b,qc1,none_s,Option.bind_some,if_true,hr,h]
 unfold perFault
 by_cases h1:500<l.length
 ·simp [h1];intro;omega
 ·simp only [h1,if_false]
  rw [if_neg (by simp;omega)])
def spanFault (f t:Int):Int×Int:=if timeB f=false∨timeB t=false then (3,-2) else if t<f then (19,-2) else (0,0)
theorem span_s (f t:Int):qf7 f t=some (spanFault f t):=qf6 (by
 simp only [qf8,q5n,time_s,qc1,none_s,Option.bind_some,beq_f,beq_t]
 unfold spanFault
 cases timeB f <;> cases timeB t <;> by_cases h:t<f <;> simp [h])
def Bnd (l:List Pd):Prop:=∀ p∈l,-68719476736≤p.From∧p.From≤p.To∧p.To≤68719476736
theorem ql8:∀ (l:List Pd) (k:Nat),(pfFrom k l).1=0→Bnd l∧pfFrom k l=(0,0)
 |[],k,_=>⟨by simp [Bnd],rfl⟩
 |p::l,k,h=>by
  unfold pfFrom at h ⊢
  by_cases hp:perBad p=0
  ·rw [if_pos hp] at h ⊢
   obtain ⟨h1,h2⟩:=ql8 l (k+1) h
   refine ⟨fun q hq=>?_,h2⟩
   rcases List.mem_cons.1 hq with e|e
   ·subst e
    unfold perBad timeB at hp
    split at hp
    ·cases hp
    ·split at hp
     ·cases hp
     ·rename_i h3 h4
      simp at h3
      omega
   ·exact h1 q e
  ·rw [if_neg hp] at h
   exact absurd h hp
theorem ql7 {l:List Pd} (h:(perFault l).1=0):Bnd l∧l.length≤500∧perFault l=(0,0):=by
 unfold perFault at h ⊢
 split at h
 ·cases h
 ·rename_i h1
  rw [if_neg h1]
  obtain ⟨h2,h3⟩:=ql8 l 0 h
  exact ⟨h2,by omega,h3⟩
theorem qt6 {f t:Int} (h:(spanFault f t).1=0):-68719476736≤f∧f≤t∧t≤68719476736∧spanFault f t=(0,0):=by
 unfold spanFault timeB at *
 split at h
 ·cases h
 ·split at h
  ·cases h
  ·rename_i h1 h2
   simp at h1
   refine ⟨by omega,by omega,by omega,?_⟩
   rw [if_neg (by simp;omega),if_neg h2]
theorem qjt:∀ (l out:List Pd),(mergeU out l).length≤out.length+l.length
 |[],out=>by simp [mergeU]
 |p::l,out=>by
  have h1:=qjt l (stepU out p)
  have h2:=qtr out p
  show (mergeU (stepU out p) l).length≤_
  simp only [List.length_cons]
  omega
theorem qwy (l:List Pd):(unionU l).length≤l.length:=by
 have h1:=qjt (sortU (l.filter fun p=>!badP p)) []
 have h2:=(qt2 (l.filter fun p=>!badP p)).2.1
 have h3:=List.length_filter_le (fun p=>!badP p) l
 unfold unionU
 simp only [List.length_nil] at h1
 omega
theorem qn {a b:List Pd} (h:a.Perm b) (x:Int):Inn a x ↔ Inn b x:=by
 unfold Inn
 constructor
 ·rintro ⟨p,hp,hx⟩;exact ⟨p,h.mem_iff.1 hp,hx⟩
 ·rintro ⟨p,hp,hx⟩;exact ⟨p,h.mem_iff.2 hp,hx⟩
theorem qk (l:List Pd) (x:Int):Inn (l.filter fun p=>!badP p) x ↔ Inn l x:=by
 unfold Inn
 constructor
 ·rintro ⟨p,hp,hx⟩;exact ⟨p,(List.mem_filter.1 hp).1,hx⟩
 ·rintro ⟨p,hp,hx⟩;exact ⟨p,List.mem_filter.2 ⟨hp,by simp [badP];omega⟩,hx⟩
theorem qwz (l:List Pd):NF (unionU l)∧∀ x,Inn (unionU l) x ↔ Inn l x:=by
 obtain ⟨h1,_,h3⟩:=qt2 (l.filter fun p=>!badP p)
 obtain ⟨m1,m2⟩:=qju (sortU (l.filter fun p=>!badP p)) [] (fun p hp=>by
  have:=(List.mem_filter.1 (h1.mem_iff.1 hp)).2
  simp [badP] at this
  exact this) h3 trivial (by simp)
 refine ⟨m1,fun x=>?_⟩
 unfold unionU
 rw [m2,qm,false_or,qn h1,qk]
theorem qwx {l u:List Pd} (hu:NF u) (h:∀ x,Inn u x ↔ Inn l x):unionU l=u :=
 NF_ext (qwz l).1 hu fun x=>by rw [(qwz l).2,h]
theorem NF_mem {l:List Pd} (h:NF l) {p:Pd} (hp:p∈l):p.From<p.To:=by
 induction l with
 |nil=>simp at hp
 |cons q l ih =>
  rcases List.mem_cons.1 hp with e|e
  ·rw [e];exact h.1
  ·exact ih h.2.2 e
theorem qww {l:List Pd} (h:Bnd l):Bnd (unionU l):=by
 intro p hp
 have hpt:=NF_mem (qwz l).1 hp
 have h1:Inn (unionU l) p.From:=⟨p,hp,by omega⟩
 have h2:Inn (unionU l) (p.To - 1):=⟨p,hp,by omega⟩
 rw [(qwz l).2] at h1 h2
 obtain ⟨q,hq,hx⟩:=h1
 obtain ⟨r,hr,hy⟩:=h2
 have a:=h q hq
 have b:=h r hr
 omega
theorem qjv (l:List Pd) (hn:l.length≤9223372036854775807):qf0 l=some (if (perFault l).1=0 then (((unionU l).length,0,0),unionU l) else ((0,perFault l),[])):=qez (by
 simp only [qf1,q5n,qfl,EC.decL_encL,EC.isL_encL,EC.encL_length,qgv,q2i,q1l,q1x,qr7,q11y,q11d,q11e,q10j,q10m,q13m,q13l,q13n,q11w,q10n,q10o,q10h,q10k,q12s,q12r,q12t,qgy,q37,q38,q11g,q11h,q11i,q11j,q11k,q11l,q11m,q11n,q11f,q1o,q20,q13o,qrz,qs1,q13q,q13s,q13r,q13t,q13u,q13v,q13x,q13w,q13y,q13z,q13p,q11x,q10p,q10q,q111,q116,q117,q118,q119,q11a,q11b,q11c,q10r,q10s,q10t,q10u,q10v,q10w,q10x,q10y,q10z,q110,q112,q113,q114,q115,q10i,q10l,q12v,q12u,q137,q13c,q13d,q13e,q13f,q13g,q13h,q13j,q13i,q13k,q12w,q12x,q12y,q12z,q130,q131,q133,q132,q134,q135,q136,q138,q139,q13a,q13b,qc,q6z l hn,qbz,none_s,Option.bind_some,if_true]
 by_cases h:(perFault l).1=0
 ·obtain ⟨_,h2,_⟩:=ql7 h
  simp [h,unionS,show l.length≤1000000 by omega]
 ·simp [h])
end Go.Proofs.Ytjlkjiifkganoaa
namespace Go.Proofs.Ytjlkjiifkganoaa
set_option linter.unusedSimpArgs false
open Go.RowKit
def gpL (til len:Int):Int→List Pd→List Pd
 |_,[]=>[]
 |a,p::l=>(if len≤min p.From til - a then [⟨a,min p.From til⟩] else [])++gpL til len (max a p.To) l
theorem qfr (til len:Int):∀ (l:List Pd) (a:Int),gpL til len a (l++[⟨til,til⟩])=gp til len a l
 |[],a=>by
  simp only [List.nil_append,gpL,gp,List.append_nil]
  rw [show min til til=til by omega]
 |p::l,a=>by
  rw [List.cons_append,gpL,gp,qfr til len l]
theorem qfj (til len:Int) (ht:-68719476736≤til∧til≤68719476736) (l:List Pd) (hn:l.length≤1000000000) (hl:∀ p∈l,-68719476736≤p.From∧p.From≤68719476736∧-68719476736≤p.To∧p.To≤68719476736) :
  ∀ (m k:Nat) (a:Int) (b:List Pd),k+m=l.length→b.length≤k→-68719476736≤a∧a≤68719476736 →
   ∃ r,qen til len b.length a l.length l.length k b l=some r∧r.1.2.2.1=(b++gpL til len a (l.drop k)).length∧r.2.1=b++gpL til len a (l.drop k):=by
 intro m
 induction m with
 |zero =>
  intro k a b hk hb ha
  have:k=l.length:=by omega
  subst this
  refine ⟨((til,len,b.length,a,l.length,(l.length:Int),(l.length:Int),false),(b,l)),qep ?_,?_,?_⟩
  ·simp only [qet,q5n,qfl,EC.decL_encL,EC.isL_encL,EC.encL_length,qgv,q2i,q1l,q1x,qr7,q11y,q11d,q11e,q10j,q10m,q13m,q13l,q13n,q11w,q10n,q10o,q10h,q10k,q12s,q12r,q12t,qgy,q37,q38,q11g,q11h,q11i,q11j,q11k,q11l,q11m,q11n,q11f,q1o,q20,q13o,qrz,qs1,q13q,q13s,q13r,q13t,q13u,q13v,q13x,q13w,q13y,q13z,q13p,q11x,q10p,q10q,q111,q116,q117,q118,q119,q11a,q11b,q11c,q10r,q10s,q10t,q10u,q10v,q10w,q10x,q10y,q10z,q110,q112,q113,q114,q115,q10i,q10l,q12v,q12u,q137,q13c,q13d,q13e,q13f,q13g,q13h,q13j,q13i,q13k,q12w,q12x,q12y,q12z,q130,q131,q133,q132,q134,q135,q136,q138,q139,q13a,q13b]
   simp
  ·simp [gpL]
  ·simp [gpL]
 |succ m ih =>
  intro k a b hk hb ha
  have hlt:k<l.length:=by omega
  have hk':(k:Int)<(l.length:Int):=by omega
  have hp:=hl l[k] (List.getElem_mem hlt)
  rw [qa0 hlt,gpL]
  have e1:(if til<l[k].From then til else l[k].From)=min l[k].From til:=by split <;> omega
  have e2:(if a<l[k].To then l[k].To else a)=max a l[k].To:=by split <;> omega
  have e3:IntKind.i64.wrap (min l[k].From til - a)=min l[k].From til - a:=qy5 (by omega) (by omega)
  by_cases hc:len≤min l[k].From til - a
  ·obtain ⟨r,hr,h1,h2⟩:=ih (k+1) (max a l[k].To) (b++[⟨a,min l[k].From til⟩]) (by omega) (by simp;omega) (by omega)
   refine ⟨r,qep ?_,?_,?_⟩
   ·rw [List.length_append] at hr
    simp only [qet,q5n,qfl,EC.decL_encL,EC.isL_encL,EC.encL_length,qgv,q2i,q1l,q1x,qr7,q11y,q11d,q11e,q10j,q10m,q13m,q13l,q13n,q11w,q10n,q10o,q10h,q10k,q12s,q12r,q12t,qgy,q37,q38,q11g,q11h,q11i,q11j,q11k,q11l,q11m,q11n,q11f,q1o,q20,q13o,qrz,qs1,q13q,q13s,q13r,q13t,q13u,q13v,q13x,q13w,q13y,q13z,q13p,q11x,q10p,q10q,q111,q116,q117,q118,q119,q11a,q11b,q11c,q10r,q10s,q10t,q10u,q10v,q10w,q10x,q10y,q10z,q110,q112,q113,q114,q115,q10i,q10l,q12v,q12u,q137,q13c,q13d,q13e,q13f,q13g,q13h,q13j,q13i,q13k,q12w,q12x,q12y,q12z,q130,q131,q133,q132,q134,q135,q136,q138,q139,q13a,q13b,Int.toNat_natCast,qfo hlt,len_40 l k hlt,q120 l k hlt,Bool.false_eq_true,if_true,if_false,e1,e2,e3,qy6 hlt (show l.length≤9223372036854775807 by omega),List.length_cons,List.length_nil] at hr ⊢
    simp only [hr]
    simp [hk',hlt,hc]
    omega
   ·rw [h1,if_pos hc,List.append_assoc]
   ·rw [h2,if_pos hc,List.append_assoc]
  ·obtain ⟨r,hr,h1,h2⟩:=ih (k+1) (max a l[k].To) b (by omega) (by omega) (by omega)
   refine ⟨r,qep ?_,?_,?_⟩
   ·simp only [qet,q5n,qfl,EC.decL_encL,EC.isL_encL,EC.encL_length,qgv,q2i,q1l,q1x,qr7,q11y,q11d,q11e,q10j,q10m,q13m,q13l,q13n,q11w,q10n,q10o,q10h,q10k,q12s,q12r,q12t,qgy,q37,q38,q11g,q11h,q11i,q11j,q11k,q11l,q11m,q11n,q11f,q1o,q20,q13o,qrz,qs1,q13q,q13s,q13r,q13t,q13u,q13v,q13x,q13w,q13y,q13z,q13p,q11x,q10p,q10q,q111,q116,q117,q118,q119,q11a,q11b,q11c,q10r,q10s,q10t,q10u,q10v,q10w,q10x,q10y,q10z,q110,q112,q113,q114,q115,q10i,q10l,q12v,q12u,q137,q13c,q13d,q13e,q13f,q13g,q13h,q13j,q13i,q13k,q12w,q12x,q12y,q12z,q130,q131,q133,q132,q134,q135,q136,q138,q139,q13a,q13b,Int.toNat_natCast,qfo hlt,len_40 l k hlt,q120 l k hlt,Bool.false_eq_true,if_true,if_false,e1,e2,e3,qy6 hlt (show l.length≤9223372036854775807 by omega),hr]
    simp [hk',hlt,hc]
   ·rw [h1,if_neg hc,List.nil_append]
   ·rw [h2,if_neg hc,List.nil_append]
theorem gaps_s (l:List Pd) (f t len:Int) (hb:Bnd l) (hn:l.length≤100000) (hf:-68719476736≤f∧f≤68719476736) (ht:-68719476736≤t∧t≤68719476736) :
  qeu l f t len=some ((gp t len f (unionU l)).length,gp t len f (unionU l)):=qem (by
 have hu:=qwy l
 have hub:=qww hb
 have hS:unionS l=some ((unionU l).length,unionU l):=by unfold unionS;rw [if_pos (by omega)]
 generalize unionU l=u at *
 have hall:∀ p∈u++[(⟨t,t⟩:Pd)],-68719476736≤p.From∧p.From≤68719476736∧-68719476736≤p.To∧p.To≤68719476736:=by
  intro p hp
  rcases List.mem_append.1 hp with h|h
  ·have:=hub p h;omega
  ·simp at h;subst h;exact ⟨ht.1,ht.2,ht.1,ht.2⟩
 obtain ⟨r,hr,h1,h2⟩:=qfj t len ht (u++[(⟨t,t⟩:Pd)]) (by simp;omega) hall (u++[(⟨t,t⟩:Pd)]).length 0 f [] (by omega) (by simp) hf
 rw [List.drop_zero,List.nil_append,qfr] at h1 h2
 rw [List.length_append] at hr
 simp only [List.length_nil,Int.natCast_zero,List.length_cons] at hr
 simp only [qev,qfl,EC.decL_encL,EC.isL_encL,EC.encL_length,qgv,q2i,q1l,q1x,qr7,q11y,q11d,q11e,q10j,q10m,q13m,q13l,q13n,q11w,q10n,q10o,q10h,q10k,q12s,q12r,q12t,qgy,q37,q38,q11g,q11h,q11i,q11j,q11k,q11l,q11m,q11n,q11f,q1o,q20,q13o,qrz,qs1,q13q,q13s,q13r,q13t,q13u,q13v,q13x,q13w,q13y,q13z,q13p,q11x,q10p,q10q,q111,q116,q117,q118,q119,q11a,q11b,q11c,q10r,q10s,q10t,q10u,q10v,q10w,q10x,q10y,q10z,q110,q112,q113,q114,q115,q10i,q10l,q12v,q12u,q137,q13c,q13d,q13e,q13f,q13g,q13h,q13j,q13i,q13k,q12w,q12x,q12y,q12z,q130,q131,q133,q132,q134,q135,q136,q138,q139,q13a,q13b,qc,hS,Option.bind_some,if_true,List.length_cons,List.length_nil,hr,h1,h2]
 simp
 omega)
instance:DecidableEq Pd:=fun a b=>decidable_of_iff (a.From=b.From∧a.To=b.To) (by cases a;cases b;simp)
def sameL (a b:List Pd):Bool:=decide (a=b)
theorem qql (a b:List Pd) (hn:a.length≤9223372036854775807) (hl:a.length=b.length):∀ (m k:Nat),k+m=a.length →
  (qmj a b k).bind (Sum.elim (fun x=>some x.1) (fun _=>some true))=some (sameL (a.drop k) (b.drop k)):=by
 intro m
 induction m with
 |zero =>
  intro k hk
  have:k=a.length:=by omega
  subst this
  have h1:qmj a b a.length=some (.inr ((a,b,(a.length:Int),false),())):=qml (by
   simp only [qmq,q5n,qfl,EC.decL_encL,EC.isL_encL,EC.encL_length,qgv,q2i,q1l,q1x,qr7,q11y,q11d,q11e,q10j,q10m,q13m,q13l,q13n,q11w,q10n,q10o,q10h,q10k,q12s,q12r,q12t,qgy,q37,q38,q11g,q11h,q11i,q11j,q11k,q11l,q11m,q11n,q11f,q1o,q20,q13o,qrz,qs1,q13q,q13s,q13r,q13t,q13u,q13v,q13x,q13w,q13y,q13z,q13p,q11x,q10p,q10q,q111,q116,q117,q118,q119,q11a,q11b,q11c,q10r,q10s,q10t,q10u,q10v,q10w,q10x,q10y,q10z,q110,q112,q113,q114,q115,q10i,q10l,q12v,q12u,q137,q13c,q13d,q13e,q13f,q13g,q13h,q13j,q13i,q13k,q12w,q12x,q12y,q12z,q130,q131,q133,q132,q134,q135,q136,q138,q139,q13a,q13b]
   simp)
  rw [h1]
  have:b.drop a.length=[]:=by rw [hl];simp
  simp [sameL,this]
 |succ m ih =>
  intro k hk
  have hlt:k<a.length:=by omega
  have hlt':k<b.length:=by omega
  have hk':(k:Int)<(a.length:Int):=by omega
  rw [qa0 hlt,qa0 hlt']
  by_cases hp:a[k]=b[k]
  ·obtain ⟨r,hr,h2⟩:=qsz (ih (k+1) (by omega))
   have h1:qmj a b k=some r:=qml (by
    simp only [qmq,q5n,qfl,EC.decL_encL,EC.isL_encL,EC.encL_length,qgv,q2i,q1l,q1x,qr7,q11y,q11d,q11e,q10j,q10m,q13m,q13l,q13n,q11w,q10n,q10o,q10h,q10k,q12s,q12r,q12t,qgy,q37,q38,q11g,q11h,q11i,q11j,q11k,q11l,q11m,q11n,q11f,q1o,q20,q13o,qrz,qs1,q13q,q13s,q13r,q13t,q13u,q13v,q13x,q13w,q13y,q13z,q13p,q11x,q10p,q10q,q111,q116,q117,q118,q119,q11a,q11b,q11c,q10r,q10s,q10t,q10u,q10v,q10w,q10x,q10y,q10z,q110,q112,q113,q114,q115,q10i,q10l,q12v,q12u,q137,q13c,q13d,q13e,q13f,q13g,q13h,q13j,q13i,q13k,q12w,q12x,q12y,q12z,q130,q131,q133,q132,q134,q135,q136,q138,q139,q13a,q13b,Int.toNat_natCast,qfo hlt,qfo hlt',qy6 hlt hn,hr,hp]
    simp [hk',hlt,hlt'])
   rw [h1]
   have:sameL (a[k]::a.drop (k+1)) (b[k]::b.drop (k+1))=sameL (a.drop (k+1)) (b.drop (k+1)):=by simp only [sameL,hp,List.cons.injEq,true_and]
   rw [this]
   exact h2
  ·have h1:qmj a b k=some (.inl (false,())):=qml (by
    have hp':¬ (a[k].From=b[k].From∧a[k].To=b[k].To):=fun h=>hp (by
     cases ha:a[k];cases hb:b[k];simp_all)
    simp only [qmq,q5n,qfl,EC.decL_encL,EC.isL_encL,EC.encL_length,qgv,q2i,q1l,q1x,qr7,q11y,q11d,q11e,q10j,q10m,q13m,q13l,q13n,q11w,q10n,q10o,q10h,q10k,q12s,q12r,q12t,qgy,q37,q38,q11g,q11h,q11i,q11j,q11k,q11l,q11m,q11n,q11f,q1o,q20,q13o,qrz,qs1,q13q,q13s,q13r,q13t,q13u,q13v,q13x,q13w,q13y,q13z,q13p,q11x,q10p,q10q,q111,q116,q117,q118,q119,q11a,q11b,q11c,q10r,q10s,q10t,q10u,q10v,q10w,q10x,q10y,q10z,q110,q112,q113,q114,q115,q10i,q10l,q12v,q12u,q137,q13c,q13d,q13e,q13f,q13g,q13h,q13j,q13i,q13k,q12w,q12x,q12y,q12z,q130,q131,q133,q132,q134,q135,q136,q138,q139,q13a,q13b,Int.toNat_natCast,qfo hlt,qfo hlt']
    simp [hk',hlt,hlt']
    intro h h';exact absurd ⟨h,h'⟩ hp')
   rw [h1]
   have:sameL (a[k]::a.drop (k+1)) (b[k]::b.drop (k+1))=false:=by simp only [sameL,List.cons.injEq,hp,false_and,decide_false]
   rw [this]
   rfl
theorem same_s (a b:List Pd) (hn:a.length≤9223372036854775807):qmr a b=some (sameL a b):=qmi (by
 by_cases hl:a.length=b.length
 ·obtain ⟨r,hr,h⟩:=qsz (qql a b hn hl a.length 0 (by omega))
  rw [List.drop_zero,List.drop_zero] at h
  simp only [Int.natCast_zero] at hr
  simp only [qms,q5n,qfl,EC.decL_encL,EC.isL_encL,EC.encL_length,qgv,q2i,q1l,q1x,qr7,q11y,q11d,q11e,q10j,q10m,q13m,q13l,q13n,q11w,q10n,q10o,q10h,q10k,q12s,q12r,q12t,qgy,q37,q38,q11g,q11h,q11i,q11j,q11k,q11l,q11m,q11n,q11f,q1o,q20,q13o,qrz,qs1,q13q,q13s,q13r,q13t,q13u,q13v,q13x,q13w,q13y,q13z,q13p,q11x,q10p,q10q,q111,q116,q117,q118,q119,q11a,q11b,q11c,q10r,q10s,q10t,q10u,q10v,q10w,q10x,q10y,q10z,q110,q112,q113,q114,q115,q10i,q10l,q12v,q12u,q137,q13c,q13d,q13e,q13f,q13g,q13h,q13j,q13i,q13k,q12w,q12x,q12y,q12z,q130,q131,q133,q132,q134,q135,q136,q138,q139,q13a,q13b,hr,Option.bind_some,if_true]
  simp [hl]
  exact h
 ·have:¬ (a.length:Int)=(b.length:Int):=by omega
  have h2:¬ a=b:=fun e=>hl (by rw [e])
  simp [qms,q5n,this,sameL,h2])
def freeR (l:List Pd) (f t n:Int):(Nat×(Int×Int))×List Pd :=
 if (perFault l).1≠0 then ((0,perFault l),[]) else if (spanFault f t).1≠0 then ((0,spanFault f t),[])
 else if n<1∨68719476736<n then ((0,3,-3),[]) else (((gp t n f (unionU l)).length,0,0),gp t n f (unionU l))
theorem free_s (l:List Pd) (f t n:Int) (hn:l.length≤9223372036854775807):qeh l f t n=some (freeR l f t n):=qeg (by
 simp only [qei,q5n,qfl,EC.decL_encL,EC.isL_encL,EC.encL_length,qgv,q2i,q1l,q1x,qr7,q11y,q11d,q11e,q10j,q10m,q13m,q13l,q13n,q11w,q10n,q10o,q10h,q10k,q12s,q12r,q12t,qgy,q37,q38,q11g,q11h,q11i,q11j,q11k,q11l,q11m,q11n,q11f,q1o,q20,q13o,qrz,qs1,q13q,q13s,q13r,q13t,q13u,q13v,q13x,q13w,q13y,q13z,q13p,q11x,q10p,q10q,q111,q116,q117,q118,q119,q11a,q11b,q11c,q10r,q10s,q10t,q10u,q10v,q10w,q10x,q10y,q10z,q110,q112,q113,q114,q115,q10i,q10l,q12v,q12u,q137,q13c,q13d,q13e,q13f,q13g,q13h,q13j,q13i,q13k,q12w,q12x,q12y,q12z,q130,q131,q133,q132,q134,q135,q136,q138,q139,q13a,q13b,qc,q6z l hn,span_s,qbz,qc1,none_s,Option.bind_some,if_true,beq_f,beq_t]
 unfold freeR
 by_cases h1:(perFault l).1=0
 ·obtain ⟨hb,hl,_⟩:=ql7 h1
  by_cases h2:(spanFault f t).1=0
  ·obtain ⟨a,b,c,_⟩:=qt6 h2
   by_cases h3:n<1
   ·simp [h1,h2,h3]
   ·by_cases h4:68719476736<n
    ·simp [h1,h2,h3,h4]
    ·simp [h1,h2,h3,h4,gaps_s l f t n hb (by omega) (by omega) (by omega)]
  ·simp [h1,h2]
 ·simp [h1])
theorem qqk (a:List Pd):sameL a a=true:=by simp [sameL]
theorem qxe:qlh=some true:=qlg (by
 have e1:q11q.decL [[C.int .i64 5,C.int .i64 9],[C.int .i64 1,C.int .i64 5],[C.int .i64 20,C.int .i64 20]]=[⟨5,9⟩,⟨1,5⟩,⟨20,20⟩]:=rfl
 have e2:q11q.decL [[C.int .i64 1,C.int .i64 9]]=[⟨1,9⟩]:=rfl
 have e3:q11q.decL [[C.int .i64 9,C.int .i64 20]]=[⟨9,20⟩]:=rfl
 have u1:unionU [⟨5,9⟩,⟨1,5⟩,⟨20,20⟩]=[⟨1,9⟩]:=qwx ⟨by decide,by simp,trivial⟩ fun x=>by simp [Inn];omega
 have u2:unionU [⟨1,9⟩]=[⟨1,9⟩]:=qwx ⟨by decide,by simp,trivial⟩ fun x=>Iff.rfl
 have p1:perFault [⟨5,9⟩,⟨1,5⟩,⟨20,20⟩]=(0,0):=by decide
 have p2:perFault [⟨1,9⟩]=(0,0):=by decide
 have f1:freeR [⟨1,9⟩] 0 20 5=((1,0,0),[⟨9,20⟩]):=by
  unfold freeR
  rw [p2,u2]
  have:spanFault 0 20=(0,0):=by decide
  rw [this]
  have:gp 20 5 0 [⟨1,9⟩]=[⟨9,20⟩]:=by decide
  simp [this]
 simp only [qli,q5n,qfl,EC.decL_encL,EC.isL_encL,EC.encL_length,qgv,q2i,q1l,q1x,qr7,q11y,q11d,q11e,q10j,q10m,q13m,q13l,q13n,q11w,q10n,q10o,q10h,q10k,q12s,q12r,q12t,qgy,q37,q38,q11g,q11h,q11i,q11j,q11k,q11l,q11m,q11n,q11f,q1o,q20,q13o,qrz,qs1,q13q,q13s,q13r,q13t,q13u,q13v,q13x,q13w,q13y,q13z,q13p,q11x,q10p,q10q,q111,q116,q117,q118,q119,q11a,q11b,q11c,q10r,q10s,q10t,q10u,q10v,q10w,q10x,q10y,q10z,q110,q112,q113,q114,q115,q10i,q10l,q12v,q12u,q137,q13c,q13d,q13e,q13f,q13g,q13h,q13j,q13i,q13k,q12w,q12x,q12y,q12z,q130,q131,q133,q132,q134,q135,q136,q138,q139,q13a,q13b,e1,e2,e3,qjv _ (show [(⟨5,9⟩:Pd),⟨1,5⟩,⟨20,20⟩].length≤9223372036854775807 by decide),p1,u1,Option.bind_some,if_true,free_s _ _ _ _ (show [(⟨1,9⟩:Pd)].length≤9223372036854775807 by decide),f1,same_s _ _ (show [(⟨1,9⟩:Pd)].length≤9223372036854775807 by decide),same_s _ _ (show [(⟨9,20⟩:Pd)].length≤9223372036854775807 by decide),qqk]
 simp)
end Go.Proofs.Ytjlkjiifkganoaa
