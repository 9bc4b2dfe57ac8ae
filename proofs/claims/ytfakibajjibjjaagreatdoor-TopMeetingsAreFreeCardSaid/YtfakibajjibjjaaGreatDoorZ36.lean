/- What the functions of freebusy answer, in plain words. -/
import Derived.Test.YtfakibajjibjjaaGreatDoorH2
namespace Go.Proofs.YtfakibajjibjjaaGreatDoor
set_option linter.unusedSimpArgs false
open Go.RowKit
def timeB (t:Int):Bool:=decide (-68719476736≤t)&&decide (t≤68719476736)
theorem qf9 (a b:Int):q4w a b=some (a,b):=q4v rfl
theorem qsz:q52=some (0,0):=q51 rfl
theorem qf6 (a b:Int):q4q a b=some (a != 0):=q4p rfl
theorem time_s (t:Int):q58 t=some (timeB t):=q57 (by
 by_cases h1:-68719476736≤t <;> simp [q59,q77,timeB,h1] <;> omega)
def perBad (p:Pd):Int:=if timeB p.From=false∨timeB p.To=false then 3 else if p.To<p.From then 19 else 0
def pfFrom:Nat→List Pd→Int×Int
 |_,[]=>(0,0)
 |k,p::l=>if perBad p=0 then pfFrom (k+1) l else (perBad p,(k:Int))
def perFault (l:List Pd):Int×Int:=if 500<l.length then (2,-1) else pfFrom 0 l
theorem q8y (l:List Pd) (hn:l.length≤9223372036854775807):∀ (m k:Nat),k+m=l.length →
  (qhn l l.length k 0 0).bind (Sum.elim (fun x=>some (x.2.1,x.2.2)) (fun _=>some (0,0)))=some (pfFrom k (l.drop k)):=by
 intro m
 induction m with
 |zero =>
  intro k hk
  have:k=l.length:=by omega
  subst this
  have h1:qhn l l.length l.length 0 0=some (.inr (((),l,(l.length:Int),(l.length:Int),false),(0,0))):=qhp (by
   simp only [qhu,q77,qit,EC.decL_encL,EC.isL_encL,EC.encL_length,qmg,q3a,q3b,q29,q2w,qxe,qxd,qxf,qmi,q3c,q2b,q2y,qxg,qmh,q3g,q2a,q2x,qxl,qmk,q3d,q3e,q2d,q30,qxi,qxh,qxj,qmm,q3l,q3m,q3o,q3p,q3q,q3r,q3s,q3t,q3u,q3v,q3n,q2f,q32,qxt,qxs,qxv,qxw,qxy,qxx,qxz,qy0,qy1,qy3,qy2,qy4,qy5,qxu,qmn,q3w,q3x,q48,q4d,q4e,q4f,q4g,q4h,q4i,q4j,q3y,q3z,q40,q41,q42,q43,q44,q45,q46,q47,q49,q4a,q4b,q4c,q2g,q33,qy7,qy6,qyj,qyo,qyp,qyq,qyr,qys,qyt,qyv,qyu,qyw,qy8,qy9,qya,qyb,qyc,qyd,qyf,qye,qyg,qyh,qyi,qyk,qyl,qym,qyn,qml,q3h,q3i,q3j,q3k,q2e,q31,qxn,qxm,qxo,qxq,qxp,qxr,qmj,q3f,q2c,q2z,qxk]
   simp)
  rw [h1]
  simp [pfFrom]
 |succ m ih =>
  intro k hk
  have hlt:k<l.length:=by omega
  rw [qcv hlt,pfFrom]
  have hk':(k:Int)<(l.length:Int):=by omega
  by_cases hp:perBad l[k]=0
  ·have h2:=ih (k+1) (by omega)
   obtain ⟨r,hr,h2⟩:=qzu h2
   have h1:qhn l l.length k 0 0=some r:=qhp (by
    simp only [qhu,q77,qit,EC.decL_encL,EC.isL_encL,EC.encL_length,qmg,q3a,q3b,q29,q2w,qxe,qxd,qxf,qmi,q3c,q2b,q2y,qxg,qmh,q3g,q2a,q2x,qxl,qmk,q3d,q3e,q2d,q30,qxi,qxh,qxj,qmm,q3l,q3m,q3o,q3p,q3q,q3r,q3s,q3t,q3u,q3v,q3n,q2f,q32,qxt,qxs,qxv,qxw,qxy,qxx,qxz,qy0,qy1,qy3,qy2,qy4,qy5,qxu,qmn,q3w,q3x,q48,q4d,q4e,q4f,q4g,q4h,q4i,q4j,q3y,q3z,q40,q41,q42,q43,q44,q45,q46,q47,q49,q4a,q4b,q4c,q2g,q33,qy7,qy6,qyj,qyo,qyp,qyq,qyr,qys,qyt,qyv,qyu,qyw,qy8,qy9,qya,qyb,qyc,qyd,qyf,qye,qyg,qyh,qyi,qyk,qyl,qym,qyn,qml,q3h,q3i,q3j,q3k,q2e,q31,qxn,qxm,qxo,qxq,qxp,qxr,qmj,q3f,q2c,q2z,qxk,Int.toNat_natCast,qiw hlt,time_s,qf9,Option.bind_some,q15g hlt hn,hr,q6n,q6o]
    unfold perBad at hp
    cases h3:timeB l[k].From <;> cases h4:timeB l[k].To <;> by_cases h5:l[k].To<l[k].From <;> simp_all <;> (intro;omega))
   rw [if_pos hp,h1]
   exact h2
  ·have h1:qhn l l.length k 0 0=some (.inl ((),(perBad l[k],(k:Int)))):=qhp (by
    simp only [qhu,q77,qit,EC.decL_encL,EC.isL_encL,EC.encL_length,qmg,q3a,q3b,q29,q2w,qxe,qxd,qxf,qmi,q3c,q2b,q2y,qxg,qmh,q3g,q2a,q2x,qxl,qmk,q3d,q3e,q2d,q30,qxi,qxh,qxj,qmm,q3l,q3m,q3o,q3p,q3q,q3r,q3s,q3t,q3u,q3v,q3n,q2f,q32,qxt,qxs,qxv,qxw,qxy,qxx,qxz,qy0,qy1,qy3,qy2,qy4,qy5,qxu,qmn,q3w,q3x,q48,q4d,q4e,q4f,q4g,q4h,q4i,q4j,q3y,q3z,q40,q41,q42,q43,q44,q45,q46,q47,q49,q4a,q4b,q4c,q2g,q33,qy7,qy6,qyj,qyo,qyp,qyq,qyr,qys,qyt,qyv,qyu,qyw,qy8,qy9,qya,qyb,qyc,qyd,qyf,qye,qyg,qyh,qyi,qyk,qyl,qym,qyn,qml,q3h,q3i,q3j,q3k,q2e,q31,qxn,qxm,qxo,qxq,qxp,qxr,qmj,q3f,q2c,q2z,qxk,Int.toNat_natCast,qiw hlt,time_s,qf9,Option.bind_some,q15g hlt hn,q6n,q6o]
    unfold perBad at hp ⊢
    cases h3:timeB l[k].From <;> cases h4:timeB l[k].To <;> by_cases h5:l[k].To<l[k].From <;> simp_all <;> (intro;omega))
   rw [if_neg hp,h1]
   rfl
theorem q8z (l:List Pd) (hn:l.length≤9223372036854775807):qhv l=some (perFault l):=qhm (by
 have h:=q8y l hn l.length 0 (by omega)
 rw [List.drop_zero] at h
 simp only [Int.natCast_zero] at h
 obtain ⟨r,hr,h⟩:=qzu h
 simp only [qhw,q77,qit,EC.decL_encL,EC.isL_encL,EC.encL_length,qmg,q3a,q3b,q29,q2w,qxe,qxd,qxf,qmi,q3c,q2b,q2y,qxg,qmh,q3g,q2a,q2x,qxl,qmk,q3d,q3e,q2d,q30,qxi,qxh,qxj,qmm,q3l,q3m,q3o,q3p,q3q,q3r,q3s,q3t,q3u,q3v,q3n,q2f,q32,qxt,qxs,qxv,qxw,qxy,qxx,qxz,qy0,qy1,qy3,qy2,qy4,qy5,qxu,qmn,q3w,q3x,q48,q4d,q4e,q4f,q4g,q4h,q4i,q4j,q3y,q3z,q40,q41,q42,q43,q44,q45,q46,q47,q49,q4a,q4b,q4c,q2g,q33,qy7,qy6,qyj,qyo,qyp,qyq,qyr,qys,qyt,qyv,qyu,qyw,qy8,qy9,qya,qyb,qyc,qyd,qyf,qye,qyg,qyh,qyi,qyk,qyl,qym,qyn,qml,q3h,q3i,q3j,q3k,q2e,q31,qxn,qxm,qxo,qxq,qxp,qxr,qmj,q3f,q2c,q2z,qxk,qf9,qsz,Option.bind_some,if_true,hr,h]
 unfold perFault
 by_cases h1:500<l.length
 ·simp [h1];intro;omega
 ·simp only [h1,if_false]
  rw [if_neg (by simp;omega)])
def spanFault (f t:Int):Int×Int:=if timeB f=false∨timeB t=false then (3,-2) else if t<f then (19,-2) else (0,0)
theorem span_s (f t:Int):qie f t=some (spanFault f t):=qid (by
 simp only [qif,q77,time_s,qf9,qsz,Option.bind_some,q6n,q6o]
 unfold spanFault
 cases timeB f <;> cases timeB t <;> by_cases h:t<f <;> simp [h])
def Bnd (l:List Pd):Prop:=∀ p∈l,-68719476736≤p.From∧p.From≤p.To∧p.To≤68719476736
theorem qu6:∀ (l:List Pd) (k:Nat),(pfFrom k l).1=0→Bnd l∧pfFrom k l=(0,0)
 |[],k,_=>⟨by simp [Bnd],rfl⟩
 |p::l,k,h=>by
  unfold pfFrom at h ⊢
  by_cases hp:perBad p=0
  ·rw [if_pos hp] at h ⊢
   obtain ⟨h1,h2⟩:=qu6 l (k+1) h
   refine ⟨fun q hq=>?_,h2⟩
   rcases List.mem_cons.1 hq with e|e
   ·subst e
    unfold perBad timeB at hp
    split at hp
    ·cases hp
    ·split at hp
     ·cases hp
     ·rename_i h3 h4
      simp at h3
      omega
   ·exact h1 q e
  ·rw [if_neg hp] at h
   exact absurd h hp
theorem qu5 {l:List Pd} (h:(perFault l).1=0):Bnd l∧l.length≤500∧perFault l=(0,0):=by
 unfold perFault at h ⊢
 split at h
 ·cases h
 ·rename_i h1
  rw [if_neg h1]
  obtain ⟨h2,h3⟩:=qu6 l 0 h
  exact ⟨h2,by omega,h3⟩
theorem q101 {f t:Int} (h:(spanFault f t).1=0):-68719476736≤f∧f≤t∧t≤68719476736∧spanFault f t=(0,0):=by
 unfold spanFault timeB at *
 split at h
 ·cases h
 ·split at h
  ·cases h
  ·rename_i h1 h2
   simp at h1
   refine ⟨by omega,by omega,by omega,?_⟩
   rw [if_neg (by simp;omega),if_neg h2]
theorem qsf:∀ (l out:List Pd),(mergeU out l).length≤out.length+l.length
 |[],out=>by simp [mergeU]
 |p::l,out=>by
  have h1:=qsf l (stepU out p)
  have h2:=q10p out p
  show (mergeU (stepU out p) l).length≤_
  simp only [List.length_cons]
  omega
theorem q145 (l:List Pd):(unionU l).length≤l.length:=by
 have h1:=qsf (sortU (l.filter fun p=>!badP p)) []
 have h2:=(qzx (l.filter fun p=>!badP p)).2.1
 have h3:=List.length_filter_le (fun p=>!badP p) l
 unfold unionU
 simp only [List.length_nil] at h1
 omega
theorem qz {a b:List Pd} (h:a.Perm b) (x:Int):Inn a x ↔ Inn b x:=by
 unfold Inn
 constructor
 ·rintro ⟨p,hp,hx⟩;exact ⟨p,h.mem_iff.1 hp,hx⟩
 ·rintro ⟨p,hp,hx⟩;exact ⟨p,h.mem_iff.2 hp,hx⟩
theorem qv (l:List Pd) (x:Int):Inn (l.filter fun p=>!badP p) x ↔ Inn l x:=by
 unfold Inn
 constructor
 ·rintro ⟨p,hp,hx⟩;exact ⟨p,(List.mem_filter.1 hp).1,hx⟩
 ·rintro ⟨p,hp,hx⟩;exact ⟨p,List.mem_filter.2 ⟨hp,by simp [badP];omega⟩,hx⟩
theorem q146 (l:List Pd):NF (unionU l)∧∀ x,Inn (unionU l) x ↔ Inn l x:=by
 obtain ⟨h1,_,h3⟩:=qzx (l.filter fun p=>!badP p)
 obtain ⟨m1,m2⟩:=qsg (sortU (l.filter fun p=>!badP p)) [] (fun p hp=>by
  have:=(List.mem_filter.1 (h1.mem_iff.1 hp)).2
  simp [badP] at this
  exact this) h3 trivial (by simp)
 refine ⟨m1,fun x=>?_⟩
 unfold unionU
 rw [m2,qy,false_or,qz h1,qv]
theorem NF_mem {l:List Pd} (h:NF l) {p:Pd} (hp:p∈l):p.From<p.To:=by
 induction l with
 |nil=>simp at hp
 |cons q l ih =>
  rcases List.mem_cons.1 hp with e|e
  ·rw [e];exact h.1
  ·exact ih h.2.2 e
theorem q144 {l:List Pd} (h:Bnd l):Bnd (unionU l):=by
 intro p hp
 have hpt:=NF_mem (q146 l).1 hp
 have h1:Inn (unionU l) p.From:=⟨p,hp,by omega⟩
 have h2:Inn (unionU l) (p.To - 1):=⟨p,hp,by omega⟩
 rw [(q146 l).2] at h1 h2
 obtain ⟨q,hq,hx⟩:=h1
 obtain ⟨r,hr,hy⟩:=h2
 have a:=h q hq
 have b:=h r hr
 omega
end Go.Proofs.YtfakibajjibjjaaGreatDoor
namespace Go.Proofs.YtfakibajjibjjaaGreatDoor
set_option linter.unusedSimpArgs false
open Go.RowKit
theorem qmu (xs:List Pd) (n:Nat) (h:n<xs.length):isP [.int .i64] 0 ((qde.encL xs).getD n [])=true:=by rw [EC.getD_lt _ _ h];rfl
def gpL (til len:Int):Int→List Pd→List Pd
 |_,[]=>[]
 |a,p::l=>(if len≤min p.From til - a then [⟨a,min p.From til⟩] else [])++gpL til len (max a p.To) l
theorem qj4 (til len:Int):∀ (l:List Pd) (a:Int),gpL til len a (l++[⟨til,til⟩])=gp til len a l
 |[],a=>by
  simp only [List.nil_append,gpL,gp,List.append_nil]
  rw [show min til til=til by omega]
 |p::l,a=>by
  rw [List.cons_append,gpL,gp,qj4 til len l]
theorem qir (til len:Int) (ht:-68719476736≤til∧til≤68719476736) (l:List Pd) (hn:l.length≤1000000000) (hl:∀ p∈l,-68719476736≤p.From∧p.From≤68719476736∧-68719476736≤p.To∧p.To≤68719476736) :
  ∀ (m k:Nat) (a:Int) (b:List Pd),k+m=l.length→b.length≤k→-68719476736≤a∧a≤68719476736 →
   ∃ r,qi1 til len b.length a l.length l.length k b l=some r∧r.1.2.2.1=(b++gpL til len a (l.drop k)).length∧r.2.1=b++gpL til len a (l.drop k):=by
 intro m
 induction m with
 |zero =>
  intro k a b hk hb ha
  have:k=l.length:=by omega
  subst this
  refine ⟨((til,len,b.length,a,l.length,(l.length:Int),(l.length:Int),false),(b,l)),qi3 ?_,?_,?_⟩
  ·simp only [qi7,q77,qit,EC.decL_encL,EC.isL_encL,EC.encL_length,qmg,q3a,q3b,q29,q2w,qxe,qxd,qxf,qmi,q3c,q2b,q2y,qxg,qmh,q3g,q2a,q2x,qxl,qmk,q3d,q3e,q2d,q30,qxi,qxh,qxj,qmm,q3l,q3m,q3o,q3p,q3q,q3r,q3s,q3t,q3u,q3v,q3n,q2f,q32,qxt,qxs,qxv,qxw,qxy,qxx,qxz,qy0,qy1,qy3,qy2,qy4,qy5,qxu,qmn,q3w,q3x,q48,q4d,q4e,q4f,q4g,q4h,q4i,q4j,q3y,q3z,q40,q41,q42,q43,q44,q45,q46,q47,q49,q4a,q4b,q4c,q2g,q33,qy7,qy6,qyj,qyo,qyp,qyq,qyr,qys,qyt,qyv,qyu,qyw,qy8,qy9,qya,qyb,qyc,qyd,qyf,qye,qyg,qyh,qyi,qyk,qyl,qym,qyn,qml,q3h,q3i,q3j,q3k,q2e,q31,qxn,qxm,qxo,qxq,qxp,qxr,qmj,q3f,q2c,q2z,qxk]
   simp
  ·simp [gpL]
  ·simp [gpL]
 |succ m ih =>
  intro k a b hk hb ha
  have hlt:k<l.length:=by omega
  have hk':(k:Int)<(l.length:Int):=by omega
  have hp:=hl l[k] (List.getElem_mem hlt)
  rw [qcv hlt,gpL]
  have e1:(if til<l[k].From then til else l[k].From)=min l[k].From til:=by split <;> omega
  have e2:(if a<l[k].To then l[k].To else a)=max a l[k].To:=by split <;> omega
  have e3:IntKind.i64.wrap (min l[k].From til - a)=min l[k].From til - a:=q15f (by omega) (by omega)
  by_cases hc:len≤min l[k].From til - a
  ·obtain ⟨r,hr,h1,h2⟩:=ih (k+1) (max a l[k].To) (b++[⟨a,min l[k].From til⟩]) (by omega) (by simp;omega) (by omega)
   refine ⟨r,qi3 ?_,?_,?_⟩
   ·rw [List.length_append] at hr
    simp only [qi7,q77,qit,EC.decL_encL,EC.isL_encL,EC.encL_length,qmg,q3a,q3b,q29,q2w,qxe,qxd,qxf,qmi,q3c,q2b,q2y,qxg,qmh,q3g,q2a,q2x,qxl,qmk,q3d,q3e,q2d,q30,qxi,qxh,qxj,qmm,q3l,q3m,q3o,q3p,q3q,q3r,q3s,q3t,q3u,q3v,q3n,q2f,q32,qxt,qxs,qxv,qxw,qxy,qxx,qxz,qy0,qy1,qy3,qy2,qy4,qy5,qxu,qmn,q3w,q3x,q48,q4d,q4e,q4f,q4g,q4h,q4i,q4j,q3y,q3z,q40,q41,q42,q43,q44,q45,q46,q47,q49,q4a,q4b,q4c,q2g,q33,qy7,qy6,qyj,qyo,qyp,qyq,qyr,qys,qyt,qyv,qyu,qyw,qy8,qy9,qya,qyb,qyc,qyd,qyf,qye,qyg,qyh,qyi,qyk,qyl,qym,qyn,qml,q3h,q3i,q3j,q3k,q2e,q31,qxn,qxm,qxo,qxq,qxp,qxr,qmj,q3f,q2c,q2z,qxk,Int.toNat_natCast,qiw hlt,len_24 l k hlt,qms l k hlt,Bool.false_eq_true,if_true,if_false,e1,e2,e3,q15g hlt (show l.length≤9223372036854775807 by omega),List.length_cons,List.length_nil] at hr ⊢
    simp only [hr]
    simp [hk',hlt,hc]
    omega
   ·rw [h1,if_pos hc,List.append_assoc]
   ·rw [h2,if_pos hc,List.append_assoc]
  ·obtain ⟨r,hr,h1,h2⟩:=ih (k+1) (max a l[k].To) b (by omega) (by omega) (by omega)
   refine ⟨r,qi3 ?_,?_,?_⟩
   ·simp only [qi7,q77,qit,EC.decL_encL,EC.isL_encL,EC.encL_length,qmg,q3a,q3b,q29,q2w,qxe,qxd,qxf,qmi,q3c,q2b,q2y,qxg,qmh,q3g,q2a,q2x,qxl,qmk,q3d,q3e,q2d,q30,qxi,qxh,qxj,qmm,q3l,q3m,q3o,q3p,q3q,q3r,q3s,q3t,q3u,q3v,q3n,q2f,q32,qxt,qxs,qxv,qxw,qxy,qxx,qxz,qy0,qy1,qy3,qy2,qy4,qy5,qxu,qmn,q3w,q3x,q48,q4d,q4e,q4f,q4g,q4h,q4i,q4j,q3y,q3z,q40,q41,q42,q43,q44,q45,q46,q47,q49,q4a,q4b,q4c,q2g,q33,qy7,qy6,qyj,qyo,qyp,qyq,qyr,qys,qyt,qyv,qyu,qyw,qy8,qy9,qya,qyb,qyc,qyd,qyf,qye,qyg,qyh,qyi,qyk,qyl,qym,qyn,qml,q3h,q3i,q3j,q3k,q2e,q31,qxn,qxm,qxo,qxq,qxp,qxr,qmj,q3f,q2c,q2z,qxk,Int.toNat_natCast,qiw hlt,len_24 l k hlt,qms l k hlt,Bool.false_eq_true,if_true,if_false,e1,e2,e3,q15g hlt (show l.length≤9223372036854775807 by omega),hr]
    simp [hk',hlt,hc]
   ·rw [h1,if_neg hc,List.nil_append]
   ·rw [h2,if_neg hc,List.nil_append]
theorem gaps_s (l:List Pd) (f t len:Int) (hb:Bnd l) (hn:l.length≤100000) (hf:-68719476736≤f∧f≤68719476736) (ht:-68719476736≤t∧t≤68719476736) :
  qi8 l f t len=some ((gp t len f (unionU l)).length,gp t len f (unionU l)):=qi0 (by
 have hu:=q145 l
 have hub:=q144 hb
 have hS:unionS l=some ((unionU l).length,unionU l):=by unfold unionS;rw [if_pos (by omega)]
 generalize unionU l=u at *
 have hall:∀ p∈u++[(⟨t,t⟩:Pd)],-68719476736≤p.From∧p.From≤68719476736∧-68719476736≤p.To∧p.To≤68719476736:=by
  intro p hp
  rcases List.mem_append.1 hp with h|h
  ·have:=hub p h;omega
  ·simp at h;subst h;exact ⟨ht.1,ht.2,ht.1,ht.2⟩
 obtain ⟨r,hr,h1,h2⟩:=qir t len ht (u++[(⟨t,t⟩:Pd)]) (by simp;omega) hall (u++[(⟨t,t⟩:Pd)]).length 0 f [] (by omega) (by simp) hf
 rw [List.drop_zero,List.nil_append,qj4] at h1 h2
 rw [List.length_append] at hr
 simp only [List.length_nil,Int.natCast_zero,List.length_cons] at hr
 simp only [qi9,qit,EC.decL_encL,EC.isL_encL,EC.encL_length,qmg,q3a,q3b,q29,q2w,qxe,qxd,qxf,qmi,q3c,q2b,q2y,qxg,qmh,q3g,q2a,q2x,qxl,qmk,q3d,q3e,q2d,q30,qxi,qxh,qxj,qmm,q3l,q3m,q3o,q3p,q3q,q3r,q3s,q3t,q3u,q3v,q3n,q2f,q32,qxt,qxs,qxv,qxw,qxy,qxx,qxz,qy0,qy1,qy3,qy2,qy4,qy5,qxu,qmn,q3w,q3x,q48,q4d,q4e,q4f,q4g,q4h,q4i,q4j,q3y,q3z,q40,q41,q42,q43,q44,q45,q46,q47,q49,q4a,q4b,q4c,q2g,q33,qy7,qy6,qyj,qyo,qyp,qyq,qyr,qys,qyt,qyv,qyu,qyw,qy8,qy9,qya,qyb,qyc,qyd,qyf,qye,qyg,qyh,qyi,qyk,qyl,qym,qyn,qml,q3h,q3i,q3j,q3k,q2e,q31,qxn,qxm,qxo,qxq,qxp,qxr,qmj,q3f,q2c,q2z,qxk,qn,hS,Option.bind_some,if_true,List.length_cons,List.length_nil,hr,h1,h2]
 simp
 omega)
instance:DecidableEq Pd:=fun a b=>decidable_of_iff (a.From=b.From∧a.To=b.To) (by cases a;cases b;simp)
end Go.Proofs.YtfakibajjibjjaaGreatDoor
