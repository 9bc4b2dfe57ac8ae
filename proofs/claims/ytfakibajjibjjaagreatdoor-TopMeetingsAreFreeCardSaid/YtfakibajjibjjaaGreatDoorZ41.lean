/- freebusy.Of, in plain words. -/
import Derived.Test.YtfakibajjibjjaaGreatDoorZ40
import Derived.Test.YtfakibajjibjjaaGreatDoorZ39
import Derived.Test.YtfakibajjibjjaaGreatDoorZ01
import Derived.Test.YtfakibajjibjjaaGreatDoorChecked
import Derived.ProofKit
import Derived.OpenShut
import Derived.JoinedCond
import Derived.Deep.Slices
import Derived.Deep.Fields
import Derived.Lib.SmallJoins
namespace Go.Proofs.YtfakibajjibjjaaGreatDoor
set_option linter.unusedSimpArgs false
open Go.RowKit
set_option maxRecDepth 100000
section
attribute [local irreducible] gdE
noncomputable def zvP (z:Zo):Int×Int:=(pZval (zt z)).getD (0,0)
theorem zvP_ok (z:Zo):pZval (zt z)=some (zvP z):=by
 obtain ⟨r,hr,_⟩:=q17i z.Name z.Standard z.Summer z.Begin_Month z.Begin_Week z.Begin_Weekday z.Begin_Minute z.End_Month z.End_Week z.End_Weekday z.End_Minute
 have hr':pZval (zt z)=some r:=hr
 unfold zvP
 rw [hr']
 rfl
noncomputable def zF (k:Nat):List Zo→Int×Int
 |[]=>(0,0)
 |z::l=>if (zvP z).1=0 then zF (k+1) l else ((zvP z).1,-10 - (k:Int))
noncomputable def evC (zs:List Zo) (f t:Int) (k:Nat):List Ev→Int×Int
 |[]=>(0,0)
 |x::l=>if (evP zs x f t).1=0 then evC zs f t (k+1) l else ((evP zs x f t).1,(k:Int))
noncomputable def evL (zs:List Zo) (f t:Int):List Ev→List Pd
 |[]=>[]
 |x::l=>(evP zs x f t).2.map (clipP f t x.Length)++evL zs f t l
theorem qem (zs:List Zo) (x:Ev) (f t:Int) (hw:x.Repeat_Weekdays.length≤9223372036854775807):(evP zs x f t).2.length≤1801:=by
 have hP:=(q6s zs x f t hw).2.2.2.1
 unfold evP
 split
 ·exact Nat.zero_le _
 split
 ·exact Nat.zero_le _
 dsimp only
 split
 ·exact Nat.zero_le _
 ·exact hP
theorem qek (zs:List Zo) (f t:Int):∀ l:List Ev,(∀ x∈l,x.Repeat_Weekdays.length≤9223372036854775807)→(evL zs f t l).length≤1801*l.length
 |[],_=>Nat.le_refl 0
 |x::l,h=>by
  have h1:=qem zs x f t (h x (by simp))
  have h2:=qek zs f t l fun y hy=>h y (by simp [hy])
  simp only [evL,List.length_append,List.length_map,List.length_cons]
  omega
theorem of7_ok (evs:List Ev) (f t b0 b1:Int) (zs:List Zo) (hz:zs.length≤60):∀ (g k:Nat),k+g=zs.length→Ok (qfl evs zs f t zs zs.length k b0 b1) fun r =>
  if (zF k (zs.drop k)).1=0 then r=.inr ((evs,(zs,(f,(t,((),(zs,((zs.length:Int),((zs.length:Int),false)))))))),(b0,b1)) else r=.inl ((0,()),([],zF k (zs.drop k))):=by
 intro g
 induction g with
 |zero =>
  intro k hk
  refine .via qfn ?_
  unfold qfs
  rw [show decide ((k:Int)<(zs.length:Int))=false by simp;omega]
  refine qtd (EC.isL_encL _ _) (qtd (EC.isL_encL _ _) (qtd (EC.isL_encL _ _) (qte ?_)))
  rw [List.drop_eq_nil_of_le (by omega),zF,if_pos rfl]
  simp only [EC.decL_encL]
  rw [show k=zs.length by omega]
 |succ g ih =>
  intro k hk
  have hlt:k<zs.length:=by omega
  refine .via qfn ?_
  unfold qfs
  rw [show decide ((k:Int)<(zs.length:Int))=true by simp;omega,q15g (n:=60) (by omega) (by omega)]
  refine qtd (by simp) (qtd (by rw [qmm];simp only [Bool.and_eq_true,decide_eq_true_eq,EC.encL_length,Int.toNat_natCast];omega) ?_)
  rw [zt_at,Int.toNat_natCast,qiw hlt,qcv hlt,zF]
  refine qta (zvP_ok zs[k]) (qta (qf6 _ _) (qtc (fun h=>?_) fun h=>?_))
  ·have h':(zvP zs[k]).1≠0:=by simpa using h
   rw [if_neg h']
   refine qta (qf9 _ _) (qte ?_)
   rw [if_neg h',q15f (by omega) (by omega)]
   rfl
  ·have h':(zvP zs[k]).1=0:=by simpa using h
   rw [if_pos h']
   refine qtd (EC.isL_encL _ _) (qtd (EC.isL_encL _ _) (qtd (EC.isL_encL _ _) ?_))
   simp only [EC.decL_encL]
   exact ih (k+1) (by omega)
theorem qt9 (zs:List Zo) (f t b0 b1:Int) (evs:List Ev) (hz:zs.length≤60) (hn:evs.length≤20) (hw:∀ x∈evs,x.Repeat_Weekdays.length≤9223372036854775807) (hf:-68719476736≤f) (hft:f≤t) (ht:t≤68719476736) :
  ∀ (g k:Nat) (acc:List Pd),k+g=evs.length→acc.length≤1801*k→Ok (qfd zs f t acc.length evs evs.length k b0 b1 acc) fun r =>
  if (evC zs f t k (evs.drop k)).1=0 then ∃ u,r=.inr (u,((b0,b1),acc++evL zs f t (evs.drop k))) else r=.inl ((0,()),([],evC zs f t k (evs.drop k))):=by
 intro g
 induction g with
 |zero =>
  intro k acc hk ha
  refine .via qff ?_
  unfold qfk
  rw [show decide ((k:Int)<(evs.length:Int))=false by simp;omega]
  refine qtd (EC.isL_encL _ _) (qtd (EC.isL_encL _ _) (qtd (EC.isL_encL _ _) (qte ?_)))
  rw [List.drop_eq_nil_of_le (by omega),evC,if_pos rfl]
  simp only [EC.decL_encL,evL,List.append_nil]
  exact ⟨_,rfl⟩
 |succ g ih =>
  intro k acc hk ha
  have hlt:k<evs.length:=by omega
  have hx:=hw _ (List.getElem_mem hlt)
  refine .via qff ?_
  unfold qfk
  rw [show decide ((k:Int)<(evs.length:Int))=true by simp;omega,q15g (n:=20) (by omega) (by omega)]
  refine qtd (by simp) (qtd (by rw [qmn];simp only [Bool.and_eq_true,decide_eq_true_eq,EC.encL_length,Int.toNat_natCast];omega) ?_)
  simp only [EC.decL_encL,EC.isL_encL,EC.encL_length,qmg,q3a,q3b,q29,q2w,qxe,qxd,qxf,qmi,q3c,q2b,q2y,qxg,qmh,q3g,q2a,q2x,qxl,qmk,q3d,q3e,q2d,q30,qxi,qxh,qxj,qmm,q3l,q3m,q3o,q3p,q3q,q3r,q3s,q3t,q3u,q3v,q3n,q2f,q32,qxt,qxs,qxv,qxw,qxy,qxx,qxz,qy0,qy1,qy3,qy2,qy4,qy5,qxu,qmn,q3w,q3x,q48,q4d,q4e,q4f,q4g,q4h,q4i,q4j,q3y,q3z,q40,q41,q42,q43,q44,q45,q46,q47,q49,q4a,q4b,q4c,q2g,q33,qy7,qy6,qyj,qyo,qyp,qyq,qyr,qys,qyt,qyv,qyu,qyw,qy8,qy9,qya,qyb,qyc,qyd,qyf,qye,qyg,qyh,qyi,qyk,qyl,qym,qyn,qml,q3h,q3i,q3j,q3k,q2e,q31,qxn,qxm,qxo,qxq,qxp,qxr,qmj,q3f,q2c,q2z,qxk,Int.toNat_natCast,qiw hlt,EC.decL_encL]
  refine qtd (by first|rfl|exact EC.isL_encL _ _) (qtd (by first|rfl|exact EC.isL_encL _ _) (qtd (by first|rfl|exact EC.isL_encL _ _) (qtd (by first|rfl|exact EC.isL_encL _ _) (qtd (by first|rfl|exact EC.isL_encL _ _) ?_))))
  refine qta (evt_sp evs[k] zs f t hz hx hf hft ht) ?_
  rw [qcv hlt,evC]
  refine qtc (fun h=>?_) fun h=>?_
  ·have h':(evP zs evs[k] f t).1≠0:=by simpa using h
   rw [if_neg h']
   refine qta (qf9 _ _) (qte ?_)
   rw [if_neg h']
   rfl
  ·have h':(evP zs evs[k] f t).1=0:=by simpa using h
   have hlen:=qem zs evs[k] f t hx
   rw [if_pos h',qk]
   refine qtd ?_ (qtd (by first|rfl|exact EC.isL_encL _ _) (qtd (by first|rfl|exact EC.isL_encL _ _) (qtd (by first|rfl|exact EC.isL_encL _ _) ?_)))
   ·simp only [q29]
    simp only [Bool.and_self,Bool.true_and,Bool.and_eq_true,decide_eq_true_eq,EC.encL_length,List.length_map]
    omega
   simp only [EC.decL_encL,EC.encL_length,evL]
   have:=ih (k+1) (acc++(evP zs evs[k] f t).2.map (clipP f t evs[k].Length)) (by omega) (by simp only [List.length_append,List.length_map];omega)
   rw [List.append_assoc,List.length_append] at this
   exact this
noncomputable def fbR (evs:List Ev) (zs:List Zo) (f t:Int):(Int×Int)×List Pd :=
 if 20<evs.length∨60<zs.length then ((2,-1),[]) else if (spanFault f t).1≠0 then (spanFault f t,[]) else if (zF 0 zs).1≠0 then (zF 0 zs,[]) else
  if (evC zs f t 0 evs).1≠0 then (evC zs f t 0 evs,[]) else ((0,0),unionU (evL zs f t evs))
theorem qft (evs:List Ev) (zs:List Zo) (f t:Int) (hw:∀ x∈evs,x.Repeat_Weekdays.length≤9223372036854775807):fbOf_s evs zs f t=some (((fbR evs zs f t).2.length,(fbR evs zs f t).1),(fbR evs zs f t).2):=by
 have h:Ok (fbOf_s evs zs f t) fun r=>r=(((fbR evs zs f t).2.length,(fbR evs zs f t).1),(fbR evs zs f t).2):=.via qfc (by
  unfold fbOf_t
  simp only [EC.encL_length,EC.decL_encL]
  refine qtc (fun h1=>?_) fun h1=>qta (qf9 _ _) (qte ?_)
  ·refine qtc (fun h2=>qta (qf9 _ _) (qte ?_)) fun h2=>?_
   ·simp at h2
    unfold fbR
    rw [if_pos (Or.inr (by omega))]
    rfl
   simp at h1 h2
   have h12:¬ (20<evs.length∨60<zs.length):=by omega
   refine qta (span_s f t) (qta (qf6 _ _) (qtc (fun h3=>qte ?_) fun h3=>?_))
   ·have h3':(spanFault f t).1≠0:=by simpa using h3
    unfold fbR
    rw [if_neg h12,if_pos h3']
    rfl
   have h3':(spanFault f t).1=0:=by simpa using h3
   obtain ⟨hf,hft,ht,_⟩:=q101 h3'
   refine qtd (EC.isL_encL _ _) (qtd (EC.isL_encL _ _) (qtd (EC.isL_encL _ _) ?_))
   refine qtb (of7_ok evs f t 0 0 zs (by omega) zs.length 0 (by omega)) fun r hr=>?_
   rw [List.drop_zero] at hr
   by_cases hz:(zF 0 zs).1=0
   ·rw [if_pos hz] at hr
    subst hr
    refine qtd (EC.isL_encL _ _) (qtd (EC.isL_encL _ _) ?_)
    refine qtb (qt9 zs f t 0 0 evs (by omega) (by omega) hw hf hft ht evs.length 0 [] (by omega) (by simp)) fun r hr=>?_
    rw [List.drop_zero,List.nil_append] at hr
    by_cases he:(evC zs f t 0 evs).1=0
    ·rw [if_pos he] at hr
     obtain ⟨u,rfl⟩:=hr
     refine qtd (EC.isL_encL _ _) ?_
     have hlen:=qek zs f t evs hw
     have hU:unionS (evL zs f t evs)=some ((unionU (evL zs f t evs)).length,unionU (evL zs f t evs)):=by
      unfold unionS
      rw [if_pos (by omega)]
     refine qta hU (qta qsz (qtd (EC.isL_encL _ _) (qte ?_)))
     unfold fbR
     rw [if_neg h12,if_neg (by simpa using h3'),if_neg (by simpa using hz),if_neg (by simpa using he)]
    ·rw [if_neg he] at hr
     subst hr
     refine qtd (EC.isL_encL _ _) (qte ?_)
     unfold fbR
     rw [if_neg h12,if_neg (by simpa using h3'),if_neg (by simpa using hz),if_pos he]
     rfl
   ·rw [if_neg hz] at hr
    subst hr
    refine qtd (EC.isL_encL _ _) (qte ?_)
    unfold fbR
    rw [if_neg h12,if_neg (by simpa using h3'),if_pos hz]
    rfl
  ·simp at h1
   unfold fbR
   rw [if_pos (Or.inl (by omega))]
   rfl)
 obtain ⟨r,e,rfl⟩:=h
 exact e
end
end Go.Proofs.YtfakibajjibjjaaGreatDoor
namespace Go.Proofs.YtfakibajjibjjaaGreatDoor
set_option linter.unusedSimpArgs false
open Go.RowKit
set_option maxRecDepth 100000
theorem qap {α:Type} [Inhabited α] [DecidableEq α] {zs:List α} {x:α} (h:x∈zs):x∈Lib.compact zs:=by
 have key:∀ j:Nat,j<zs.length→zs.toArray[j]!∈Lib.compact zs:=by
  intro j
  induction j with
  |zero=>exact fun hj=>List.mem_map.2 ⟨0,List.mem_filter.2 ⟨List.mem_range.2 hj,by simp [Lib.keeps]⟩,rfl⟩
  |succ j ih =>
   intro hj
   by_cases hk:zs.toArray[j+1]! = zs.toArray[j]!
   ·rw [hk]
    exact ih (by omega)
   ·exact List.mem_map.2 ⟨j+1,List.mem_filter.2 ⟨List.mem_range.2 hj,Lib.keeps_pos (by simpa using hk)⟩,rfl⟩
 obtain ⟨j,hj,rfl⟩:=List.getElem_of_mem h
 have:=key j hj
 rwa [getElem!_pos zs.toArray j (by simpa using hj),List.getElem_toArray] at this
def Spn (a b:Int):Prop:=-68719476736≤a∧a≤b∧b≤68719476736
theorem q6t (z:ZT) (s:DT) (r:RT) (hw:r.2.2.2.2.2.1.length≤9223372036854775807) :
  (∃ c:Int×Int,c.1≠0∧∀ a b,Spn a b→betS z s r a b=some ([],c))∨∃ base:List Int,∀ a b,Spn a b→∃ l,betS z s r a b=some (l,(0,0))∧∀ t,t∈l ↔ t∈base∧a≤t∧t≤b:=by
 obtain ⟨f,hf,_⟩:=q17i z.1 z.2.1 z.2.2.1 z.2.2.2.1 z.2.2.2.2.1 z.2.2.2.2.2.1 z.2.2.2.2.2.2.1 z.2.2.2.2.2.2.2.1 z.2.2.2.2.2.2.2.2.1 z.2.2.2.2.2.2.2.2.2.1 z.2.2.2.2.2.2.2.2.2.2
 have hf:pZval z=some f:=hf
 cases h1:f.1 != 0 with
 |true=>exact .inl ⟨(f.1,-10),by simpa using h1,fun a b _=>by unfold betS betF;rw [hf,Option.bind_some,h1];rfl⟩
 |false =>
 obtain ⟨q,hq,_⟩:=q15w z.1 z.2.1 z.2.2.1 z.2.2.2.1 z.2.2.2.2.1 z.2.2.2.2.2.1 z.2.2.2.2.2.2.1 z.2.2.2.2.2.2.2.1 z.2.2.2.2.2.2.2.2.1 z.2.2.2.2.2.2.2.2.2.1 z.2.2.2.2.2.2.2.2.2.2 s.1 s.2.1 s.2.2.1 s.2.2.2.1 s.2.2.2.2.1 s.2.2.2.2.2.1 s.2.2.2.2.2.2
 have hq:pZinst z s=some q:=hq
 cases h2:q.1.2.1 != 0 with
 |true=>exact .inl ⟨(q.1.2.1,-11),by simpa using h2,fun a b _=>by unfold betS betF;rw [hf,Option.bind_some,h1,hq];simp only [cond_false,Option.bind_some,h2,cond_true]⟩
 |false =>
 cases h3:decide (3980<s.1) with
 |true=>exact .inl ⟨(3,-11),by decide,fun a b _=>by unfold betS betF;rw [hf,Option.bind_some,h1,hq];simp only [cond_false,Option.bind_some,h2,h3,cond_true]⟩
 |false =>
 obtain ⟨g,hg,hg2⟩:=qwq r.1 r.2.1 r.2.2.1 r.2.2.2.1 r.2.2.2.2.1 r.2.2.2.2.2.1 r.2.2.2.2.2.2.1 r.2.2.2.2.2.2.2 hw
 have hg:pRval r=some g:=hg
 cases h4:g.1 != 0 with
 |true=>exact .inl ⟨g,by simpa using h4,fun a b _=>by unfold betS betF;rw [hf,Option.bind_some,h1,hq];simp only [cond_false,Option.bind_some,h2,h3,hg,h4,cond_true]⟩
 |false =>
 obtain ⟨he,hx,hy⟩:=hg2 (bne0 h4)
 obtain ⟨b0,hb0,_⟩:=qcl s.1 s.2.1 s.2.2.1 s.2.2.2.1 s.2.2.2.2.1 s.2.2.2.2.2.1 s.2.2.2.2.2.2
 have hb0:pDinst s=some b0:=hb0
 obtain ⟨ts,hts,ht⟩:=qm0 z s r b0.1 hw he 1501 0 0
 obtain ⟨k,hk,_⟩:=qnb r.2.2.2.2.2.2.1 (by omega) ts
 refine .inr ⟨k++r.2.2.2.2.2.2.2,fun a b ⟨ha,hab,hb⟩=>?_⟩
 obtain ⟨ta,hta,hta2⟩:=q131 a
 obtain ⟨tb,htb,htb2⟩:=q131 b
 have e1:ta=true:=by rw [hta2];simp;omega
 have e2:tb=true:=by rw [htb2];simp;omega
 have e3:decide (b<a)=false:=by simp;omega
 have e4:(decide (ts.length≤1000000)&&decide (r.2.2.2.2.2.2.2.length≤1000000))=true:=by simp;omega
 refine ⟨Lib.compact (((k++r.2.2.2.2.2.2.2).filter fun t=>!(decide (t<a)||decide (b<t))).mergeSort leI),?_,fun t=>?_⟩
 ·unfold betS betF finB
  rw [hf,Option.bind_some,h1,hq]
  simp only [cond_false,Option.bind_some,h2,h3,hg,h4,hta,htb,e1,e2,e3,Bool.not_true,Bool.or_self,hb0,hts,hk,e4,cond_true]
 ·constructor
  ·intro h
   have h:=(List.mergeSort_perm _ _).subset (qsd h)
   obtain ⟨h1,h2⟩:=List.mem_filter.1 h
   simp at h2
   exact ⟨h1,h2⟩
  ·rintro ⟨h1,h2,h3⟩
   refine qap ((List.mergeSort_perm _ _).symm.subset (List.mem_filter.2 ⟨h1,?_⟩))
   simp
   omega
set_option maxRecDepth 100000
theorem qpt {f t L:Int} (hL:0≤L) (h:Spn f t):Spn (lowA f L) t:=by
 unfold Spn lowA at *
 split <;> omega
theorem qps {f a L:Int} (h:f≤a):lowA f L≤lowA a L:=by
 unfold lowA
 split <;> split <;> omega
theorem qen (zs:List Zo) (x:Ev) {f t a b:Int} (hw:x.Repeat_Weekdays.length≤9223372036854775807) (h:Spn f t) (h2:Spn a b) (hfa:f≤a) (hbt:b≤t) (h0:(evP zs x f t).1=0) :
  (evP zs x a b).1=0∧∀ u∈(evP zs x a b).2,u∈(evP zs x f t).2:=by
 unfold evP at h0 ⊢
 by_cases h3:gidx (inZ x) 0 zs<0
 ·rw [if_pos h3] at h0;exact absurd h0 (by decide)
 by_cases h4:x.Length<0∨1000000<x.Length
 ·rw [if_neg h3,if_pos h4] at h0;exact absurd h0 (by decide)
 rw [if_neg h3,if_neg h4] at h0 ⊢
 rw [if_neg h3,if_neg h4]
 dsimp only at h0 ⊢
 rcases q6t (zt (zs.getD (gidx (inZ x) 0 zs).toNat (qdk.dec []))) (evS x) (evR x) hw with ⟨c,hc,hB⟩|⟨base,hB⟩
 ·have e:betV zs x f t=([],c):=by
   unfold betV
   rw [hB _ _ (qpt (by omega) h)]
   rfl
  rw [e] at h0
  exact absurd h0 hc
 ·obtain ⟨l,hl,hm⟩:=hB _ _ (qpt (L:=x.Length) (by omega) h)
  obtain ⟨l2,hl2,hm2⟩:=hB _ _ (qpt (L:=x.Length) (by omega) h2)
  have e:betV zs x f t=(l,(0,0)):=by
   unfold betV
   rw [hl]
   rfl
  have e2:betV zs x a b=(l2,(0,0)):=by
   unfold betV
   rw [hl2]
   rfl
  rw [e,e2]
  refine ⟨rfl,fun u hu=>?_⟩
  split at hu
  ·cases hu
  ·rename_i h5
   rw [if_neg h5]
   have:=(hm2 u).1 hu
   have h6:=qps (L:=x.Length) hfa
   exact (hm u).2 ⟨this.1,by omega,by omega⟩
theorem qeg (zs:List Zo) {f t a b:Int} (h:Spn f t) (h2:Spn a b) (hfa:f≤a) (hbt:b≤t):∀ (l:List Ev) (k:Nat),(∀ x∈l,x.Repeat_Weekdays.length≤9223372036854775807)→(evC zs f t k l).1=0→(evC zs a b k l).1=0
 |[],_,_,_=>rfl
 |x::l,k,hw,h0=>by
  unfold evC at h0 ⊢
  by_cases h3:(evP zs x f t).1=0
  ·rw [if_pos h3] at h0
   rw [if_pos (qen zs x (hw x (by simp)) h h2 hfa hbt h3).1]
   exact qeg zs h h2 hfa hbt l (k+1) (fun y hy=>hw y (by simp [hy])) h0
  ·rw [if_neg h3] at h0
   exact absurd h0 h3
theorem q9o (f t L a x:Int):((clipP f t L a).From≤x∧x<(clipP f t L a).To) ↔ (f≤x∧x<t)∧(a≤x∧x<a+60*L):=by
 unfold clipP
 dsimp only
 split <;> split <;> omega
theorem qx (g:Int→Pd) (x:Int):∀ l:List Int,Inn (l.map g) x ↔ ∃ a∈l,(g a).From≤x∧x<(g a).To
 |[]=>by simp [qy]
 |a::l=>by rw [List.map_cons,qu,qx g x l];simp
theorem qel (zs:List Zo) {f t a b:Int} (h:Spn f t) (h2:Spn a b) (hfa:f≤a) (hbt:b≤t) (y:Int):∀ (l:List Ev) (k:Nat),(∀ x∈l,x.Repeat_Weekdays.length≤9223372036854775807)→(evC zs f t k l).1=0→Inn (evL zs a b l) y→a≤y∧y<b∧Inn (evL zs f t l) y
 |[],_,_,_,hy=>by simp [evL,qy] at hy
 |x::l,k,hw,h0,hy=>by
  unfold evC at h0
  by_cases h3:(evP zs x f t).1=0
  ·rw [if_pos h3] at h0
   rw [evL,qt] at hy ⊢
   rcases hy with hy|hy
   ·rw [qx] at hy
    obtain ⟨u,hu,hy⟩:=hy
    have h5:=(q9o _ _ _ _ _).1 hy
    refine ⟨h5.1.1,h5.1.2,.inl ?_⟩
    rw [qx]
    exact ⟨u,(qen zs x (hw x (by simp)) h h2 hfa hbt h3).2 u hu,(q9o _ _ _ _ _).2 ⟨by omega,h5.2⟩⟩
   ·have:=qel zs h h2 hfa hbt y l (k+1) (fun z hz=>hw z (by simp [hz])) h0 hy
    exact ⟨this.1,this.2.1,.inr this.2.2⟩
  ·rw [if_neg h3] at h0
   exact absurd h0 h3
theorem qfv (evs:List Ev) (zs:List Zo) {f t a b:Int} (hw:∀ x∈evs,x.Repeat_Weekdays.length≤9223372036854775807) (h0:(fbR evs zs f t).1.1=0) (hfa:f≤a) (hab:a≤b) (hbt:b≤t) (hn:∀ y,a≤y→y<b→¬ Inn (fbR evs zs f t).2 y) :
  (fbR evs zs a b).1.1=0∧(fbR evs zs a b).2=[]:=by
 unfold fbR at h0 hn ⊢
 by_cases h1:20<evs.length∨60<zs.length
 ·rw [if_pos h1] at h0;exact absurd h0 (by decide)
 by_cases h2:(spanFault f t).1≠0
 ·rw [if_neg h1,if_pos h2] at h0;exact absurd h0 h2
 by_cases h3:(zF 0 zs).1≠0
 ·rw [if_neg h1,if_neg h2,if_pos h3] at h0;exact absurd h0 h3
 by_cases h4:(evC zs f t 0 evs).1≠0
 ·rw [if_neg h1,if_neg h2,if_neg h3,if_pos h4] at h0;exact absurd h0 h4
 rw [if_neg h1,if_neg h2,if_neg h3,if_neg h4] at hn
 have h2':(spanFault f t).1=0:=by simpa using h2
 have h4':(evC zs f t 0 evs).1=0:=by simpa using h4
 obtain ⟨s1,s2,s3,_⟩:=q101 h2'
 have hs:Spn f t:=⟨s1,s2,s3⟩
 have hs2:Spn a b:=⟨by omega,hab,by omega⟩
 have h5:¬ (spanFault a b).1≠0:=by
  unfold spanFault timeB
  have e1:decide (-68719476736≤a)=true:=by simp;omega
  have e2:decide (a≤68719476736)=true:=by simp;omega
  have e3:decide (-68719476736≤b)=true:=by simp;omega
  have e4:decide (b≤68719476736)=true:=by simp;omega
  rw [e1,e2,e3,e4,if_neg (by simp),if_neg (by omega)]
  simp
 have h6:¬ (evC zs a b 0 evs).1≠0:=by
  rw [qeg zs hs hs2 hfa hbt evs 0 hw h4']
  simp
 rw [if_neg h1,if_neg h5,if_neg h3,if_neg h6]
 refine ⟨rfl,?_⟩
 have hU:=q146 (evL zs a b evs)
 refine NF_ext hU.1 (b:=[]) trivial fun y=>?_
 rw [hU.2,qy]
 constructor
 ·intro hy
  have:=qel zs hs hs2 hfa hbt y evs 0 hw h4' hy
  exact hn y this.1 this.2.1 ((q146 (evL zs f t evs)).2 y |>.2 this.2.2)
 ·exact False.elim
set_option maxRecDepth 100000
theorem qiq {l:List Pd} {f t n:Int} (hn:1≤n) {q:Pd} (hq:q∈gp t n f (unionU l)):∀ x,q.From≤x→x<q.To→f≤x∧x<t∧¬ Inn l x:=by
 obtain ⟨u1,u2⟩:=q146 l
 obtain ⟨g1,g2⟩:=gp_ok (til:=t) (unionU l) f u1
 rw [gp_len hn] at hq
 intro x a b
 have:=(g2 x).1 ⟨q,(List.mem_filter.1 hq).1,a,b⟩
 rwa [u2] at this
abbrev WkOk (evs:List Ev):Prop:=∀ x∈evs,x.Repeat_Weekdays.length≤9223372036854775807
theorem sl_at (ls:List (List Ev)) {k:Nat} (h:k<ls.length):slOf (List.getD (List.getD (EC.encL qdh ls) k []) 0 C.ne)=qdl.encL ls[k]:=by
 rw [EC.getD_lt _ _ h]
 rfl
theorem isE_at (ls:List (List Ev)) {k:Nat} (h:k<ls.length):isE [K1.sl] 0 (List.getD (EC.encL qdh ls) k [])=true:=by
 rw [EC.getD_lt _ _ h]
 rfl
theorem q35 (b:List (List Pd)) (x:List Pd):EC.encL qdg b++[[C.sl (EC.encL qde x)]]=EC.encL qdg (b++[x]):=by
 rw [←qk]
 rfl
theorem q2h (b:List (List Pd)):List.all (EC.encL qdg b) (fun el=>el.length==1)=true:=by
 rw [List.all_eq_true]
 intro e he
 obtain ⟨x,_,rfl⟩:=List.mem_map.1 he
 rfl
section
attribute [local irreducible] gdE
theorem qfu (evs:List Ev) (zs:List Zo) (f t:Int) (hw:WkOk evs):(fbR evs zs f t).2.length≤9223372036854775807:=by
 unfold fbR
 split
 ·exact Nat.zero_le _
 rename_i h
 split
 ·exact Nat.zero_le _
 split
 ·exact Nat.zero_le _
 split
 ·exact Nat.zero_le _
 have h1:=q145 (evL zs f t evs)
 have h2:=qek zs f t evs hw
 show (unionU (evL zs f t evs)).length≤_
 omega
theorem cal_ok (evs:List (List Ev)) (zs:List Zo) (n f t:Int) (o:ByteArray) (gs:List Gu) (r pf pt:Int) (c:Bool) (h5:evs.length≤5) (hw:∀ a∈evs,WkOk a) :
  ∀ (g k:Nat) (acc:List (List Pd)),k+g=evs.length→acc=(evs.take k).map (fun a=>(fbR a zs f t).2)→(∀ a∈evs.take k,(fbR a zs f t).1.1=0) →
  Ok (qoc evs zs n f t acc.length k o gs r pf pt c acc) fun x=>x=.inl (true,()) ∨
   ((∀ a∈evs,(fbR a zs f t).1.1=0)∧x=.inr ((evs,(zs,(n,(f,(t,((),(evs.length,((evs.length:Int),false)))))))),((o,(gs,(r,(pf,(pt,c))))),evs.map (fun a=>(fbR a zs f t).2)))):=by
 intro g
 induction g with
 |zero =>
  intro k acc hk ha h0
  have hk':k=evs.length:=by omega
  subst hk'
  rw [List.take_length] at ha h0
  subst ha
  refine .via qoe ?_
  unfold qoj
  rw [show decide ((evs.length:Int)<((EC.encL qdh evs).length:Nat))=false by simp [EC.encL_length]]
  refine qtd (EC.isL_encL _ _) (qtd (EC.isL_encL _ _) (qtd (EC.isL_encL _ _) (qtd (EC.isL_encL _ _) (qte ?_))))
  simp only [EC.decL_encL,List.length_map]
  exact .inr ⟨h0,trivial⟩
 |succ g ih =>
  intro k acc hk ha h0
  have hlt:k<evs.length:=by omega
  refine .via qoe ?_
  unfold qoj
  rw [show decide ((k:Int)<((EC.encL qdh evs).length:Nat))=true by simp [EC.encL_length];omega]
  simp only [Int.toNat_natCast,sl_at evs hlt,isE_at evs hlt,EC.decL_encL,EC.encL_length,q35,q2h,q15g (n:=5) (k:=k) (by omega) (by omega)]
  refine qtd (by simp) (qtd (by simp;omega) (qtd (EC.isL_encL _ _) (qtd (EC.isL_encL _ _) ?_)))
  refine qta (qft evs[k] zs f t (hw _ (List.getElem_mem hlt))) (qtc (fun h=>qte (.inl rfl)) fun h=>?_)
  have h':(fbR evs[k] zs f t).1.1=0:=by simpa using h
  have hacc:acc.length=k:=by rw [ha,List.length_map,List.length_take];omega
  refine qtd ?_ (qtd (EC.isL_encL _ _) (qtd (EC.isL_encL _ _) (qtd (EC.isL_encL _ _) (qtd (EC.isL_encL _ _) ?_))))
  ·simp
   omega
  have hi:=ih (k+1) (acc++[(fbR evs[k] zs f t).2]) (by omega) (by rw [q12x hlt,List.map_append,ha];rfl) (by
   rw [q12x hlt]
   intro a hm
   rcases List.mem_append.1 hm with hm|hm
   ·exact h0 a hm
   ·rw [List.mem_singleton.1 hm];exact h')
  rw [List.length_append] at hi
  exact hi
theorem ans_ok (evs:List (List Ev)) (zs:List Zo) (m:Mtg) (f t:Int) (hf:(mtgFault m).1=0) (hr:m.round≠1000000) (hp:possB f t=true):∀ (q i:Nat),i+q=m.guests.length →
  qnw evs zs i m.org m.guests m.round m.pf m.pt m.can f t m.org m.guests.length (m.round+1) f t false (AL (fun j=>decide (j<i)) 0 m.guests) =
   some (.inr ((evs,(zs,((),((),((),((m.guests.length:Int),false)))))),((m.org,(m.guests,(m.round,(m.pf,(m.pt,m.can))))),((f,t),((m.org,(m.guests.length,(m.round+1,(f,(t,false))))),AL (fun j=>decide (j<m.guests.length)) 0 m.guests))))):=by
 obtain ⟨g1,g2,g3,g4⟩:=mtg_ok hf
 intro q
 induction q with
 |zero =>
  intro i hi
  have:i=m.guests.length:=by omega
  subst this
  refine qny ?_
  simp only [qo3,q77,qit,EC.decL_encL,EC.isL_encL,EC.encL_length,qmg,q3a,q3b,q29,q2w,qxe,qxd,qxf,qmi,q3c,q2b,q2y,qxg,qmh,q3g,q2a,q2x,qxl,qmk,q3d,q3e,q2d,q30,qxi,qxh,qxj,qmm,q3l,q3m,q3o,q3p,q3q,q3r,q3s,q3t,q3u,q3v,q3n,q2f,q32,qxt,qxs,qxv,qxw,qxy,qxx,qxz,qy0,qy1,qy3,qy2,qy4,qy5,qxu,qmn,q3w,q3x,q48,q4d,q4e,q4f,q4g,q4h,q4i,q4j,q3y,q3z,q40,q41,q42,q43,q44,q45,q46,q47,q49,q4a,q4b,q4c,q2g,q33,qy7,qy6,qyj,qyo,qyp,qyq,qyr,qys,qyt,qyv,qyu,qyw,qy8,qy9,qya,qyb,qyc,qyd,qyf,qye,qyg,qyh,qyi,qyk,qyl,qym,qyn,qml,q3h,q3i,q3j,q3k,q2e,q31,qxn,qxm,qxo,qxq,qxp,qxr,qmj,q3f,q2c,q2z,qxk]
  simp
 |succ q ih =>
  intro i hi
  have hlt:i<m.guests.length:=by omega
  have hlt':(i:Int)<(m.guests.length:Int):=by omega
  have hv:=q9 (fun j=>decide (j<i)) m f t hf hr hp
  have hal:(AL (fun j=>decide (j<i)) 0 m.guests).length=m.guests.length:=AL_len ..
  have hgx:gidx (fun g=>g.Address.toList==m.guests[i].Address.toList) 0 (AL (fun j=>decide (j<i)) 0 m.guests)=(i:Int):=by
   rw [qiz (q8 _ _ _)]
   exact qg3 hf hlt
  have hac:=q14 ⟨m.org,AL (fun j=>decide (j<i)) 0 m.guests,m.round+1,f,t,false⟩ m.guests[i].Address 0 0 i (by rw [hv]) rfl (by simp only;omega) hgx (by simpa [hal] using hlt)
  simp only [AL_at _ m.guests _ hlt,AL_set _ _ _ hlt,hal] at hac
  have hih:=ih (i+1) (by omega)
  have hS:(fun a=>decide (a<i)||a==i)=fun j:Nat=>decide (j<i+1):=by
   funext a
   rw [Bool.eq_iff_iff]
   simp
   omega
  rw [hS] at hac
  refine qny ?_
  simp only [qo3,q77,qit,EC.decL_encL,EC.isL_encL,EC.encL_length,qmg,q3a,q3b,q29,q2w,qxe,qxd,qxf,qmi,q3c,q2b,q2y,qxg,qmh,q3g,q2a,q2x,qxl,qmk,q3d,q3e,q2d,q30,qxi,qxh,qxj,qmm,q3l,q3m,q3o,q3p,q3q,q3r,q3s,q3t,q3u,q3v,q3n,q2f,q32,qxt,qxs,qxv,qxw,qxy,qxx,qxz,qy0,qy1,qy3,qy2,qy4,qy5,qxu,qmn,q3w,q3x,q48,q4d,q4e,q4f,q4g,q4h,q4i,q4j,q3y,q3z,q40,q41,q42,q43,q44,q45,q46,q47,q49,q4a,q4b,q4c,q2g,q33,qy7,qy6,qyj,qyo,qyp,qyq,qyr,qys,qyt,qyv,qyu,qyw,qy8,qy9,qya,qyb,qyc,qyd,qyf,qye,qyg,qyh,qyi,qyk,qyl,qym,qyn,qml,q3h,q3i,q3j,q3k,q2e,q31,qxn,qxm,qxo,qxq,qxp,qxr,qmj,q3f,q2c,q2z,qxk,hlt',Int.toNat_natCast,qiw hlt,hac,Option.bind_some,bne_self_eq_false,Bool.false_eq_true,if_false,if_true,decide_true,q15g hlt (by omega:m.guests.length≤9223372036854775807),hih,hlt,Int.natCast_nonneg,Bool.and_self]
theorem chk_ok (evs:List (List Ev)) (zs:List Zo) (d:Bool) (a b:Int) (o:ByteArray) (l r x y:Int) (c:Bool) (n:Nat) (u v:Int) (gs:List Gu) (h5:evs.length≤5) (hw:∀ a∈evs,WkOk a)
  (h0:∀ e∈evs,(fbR e zs a b).1.1=0∧(fbR e zs a b).2=[]):∀ (g k:Nat),k+g=evs.length →
  Ok (qo4 evs zs d k a b o n r x y c u v gs) fun q=>q=.inr ((evs,(zs,((),((),(d,((),((evs.length:Int),false))))))),((a,b),((o,(n,(r,(x,(y,c))))),((u,v),gs)))):=by
 intro g
 induction g with
 |zero =>
  intro k hk
  have hk':k=evs.length:=by omega
  subst hk'
  refine .via qo6 ?_
  unfold qob
  rw [show decide ((evs.length:Int)<((EC.encL qdh evs).length:Nat))=false by simp [EC.encL_length]]
  refine qtd (EC.isL_encL _ _) (qtd (EC.isL_encL _ _) (qtd (EC.isL_encL _ _) (qte ?_)))
  simp only [EC.decL_encL]
 |succ g ih =>
  intro k hk
  have hlt:k<evs.length:=by omega
  obtain ⟨e1,e2⟩:=h0 _ (List.getElem_mem hlt)
  refine .via qo6 ?_
  unfold qob
  rw [show decide ((k:Int)<((EC.encL qdh evs).length:Nat))=true by simp [EC.encL_length];omega]
  simp only [Int.toNat_natCast,sl_at evs hlt,isE_at evs hlt,EC.decL_encL,EC.encL_length,q15g (n:=5) (k:=k) (by omega) (by omega)]
  refine qtd (by simp) (qtd (by simp;omega) (qtd (EC.isL_encL _ _) (qtd (EC.isL_encL _ _) ?_)))
  refine qta (qft evs[k] zs a b (hw _ (List.getElem_mem hlt))) (qtc (fun _=>?_) fun h=>?_)
  ·refine qtc (fun h=>?_) fun _=>?_
   ·rw [e2] at h
    simp at h
   ·exact qtd (EC.isL_encL _ _) (qtd (EC.isL_encL _ _) (qtd (EC.isL_encL _ _) (ih (k+1) (by omega))))
  ·simp [e1] at h
theorem qw (y:Int):∀ ls:List (List Pd),Inn ls.flatten y ↔ ∃ l∈ls,Inn l y
 |[]=>by simp [qy]
 |l::ls=>by
  rw [List.flatten_cons,qt,qw y ls]
  simp
theorem q6p {ls:List (List Pd)} {n f t:Int} (h:(bestR ls n f t).2.1=true):(bestR ls n f t).2.2.1=0∧f≤(bestR ls n f t).1.1∧(bestR ls n f t).1.1≤(bestR ls n f t).1.2∧(bestR ls n f t).1.2≤t ∧
  ∀ l∈ls,∀ y,(bestR ls n f t).1.1≤y→y<(bestR ls n f t).1.2→¬ Inn l y:=by
 unfold bestR at h ⊢
 by_cases h1:30<ls.length
 ·rw [if_pos h1] at h;cases h
 by_cases h2:(calF 0 ls).1≠0
 ·rw [if_neg h1,if_pos h2] at h;cases h
 by_cases h3:(spanFault f t).1≠0
 ·rw [if_neg h1,if_neg h2,if_pos h3] at h;cases h
 by_cases h4:n<1∨68719476736<n
 ·rw [if_neg h1,if_neg h2,if_neg h3,if_pos h4] at h;cases h
 rw [if_neg h1,if_neg h2,if_neg h3,if_neg h4] at h ⊢
 cases hg:gp t n f (unionU ls.flatten) with
 |nil=>rw [hg] at h;cases h
 |cons q r =>
  have hq:q∈gp t n f (unionU ls.flatten):=by rw [hg];simp
  have hb:=qj5 _ _ q hq
  have hn:1≤n:=by omega
  refine ⟨rfl,hb.1,by show q.From≤q.From+n;omega,by show q.From+n≤t;omega,fun l hl y a b hy=>?_⟩
  have b':y<q.From+n:=b
  exact (qiq hn hq y a (by omega)).2.2 ((qw y ls).2 ⟨l,hl,hy⟩)
theorem qon (o:ByteArray) (gs:List Gu) (r pf pt:Int) (c:Bool) (evs:List (List Ev)) (zs:List Zo) (n f t:Int) (hw:∀ a∈evs,WkOk a) (hg:gs.length≤maxLen) (he:evs.length≤maxLen) :
  qom o gs r pf pt c evs zs n f t=some true:=by
 have hg':gs.length≤9223372036854775807:=by unfold maxLen at hg;omega
 have h:Ok (qom o gs r pf pt c evs zs n f t) fun x=>x=true:=.via qnu (by
  unfold qoo
  refine qtc (fun _=>qte rfl) fun h5=>?_
  have h5':evs.length≤5:=by simp [EC.encL_length] at h5;omega
  refine qtd (EC.isL_encL _ _) (qtd (EC.isL_encL _ _) (qtd (EC.isL_encL _ _) ?_))
  simp only [EC.decL_encL,qn]
  refine qtb (cal_ok evs zs n f t o gs r pf pt c h5' hw evs.length 0 [] (by omega) (by simp) (by simp)) fun x hx=>?_
  rcases hx with rfl|⟨h0,rfl⟩
  ·exact qte rfl
  refine qtd (EC.isL_encL _ _) ?_
  have hl:∀ l∈evs.map (fun a=>(fbR a zs f t).2),l.length≤9223372036854775807:=fun l hl=>by
   obtain ⟨a,ha,rfl⟩:=List.mem_map.1 hl
   exact qfu a zs f t (hw a ha)
  refine qta (best_s (evs.map fun a=>(fbR a zs f t).2) n f t (by rw [List.length_map];omega) hl) ?_
  refine qtc (fun hb1=>?_) fun _=>qte rfl
  refine qtc (fun _=>qte rfl) fun hb2=>?_
  have hb:(bestR (evs.map fun a=>(fbR a zs f t).2) n f t).2.1=true:=by simpa using hb2
  obtain ⟨_,k1,k2,k3,k4⟩:=q6p hb
  generalize (bestR (evs.map fun a=>(fbR a zs f t).2) n f t)=B at *
  refine qtd (EC.isL_encL _ _) ?_
  refine qta (Propose' o gs r pf pt c B.1.1 B.1.2 hg') ?_
  refine qtc (fun _=>qte rfl) fun hp=>?_
  by_cases h0':(runFault ⟨o,gs,r,pf,pt,c⟩).1=0
  case neg =>
   have e:propOf ⟨o,gs,r,pf,pt,c⟩ B.1.1 B.1.2=((zrow,runFault ⟨o,gs,r,pf,pt,c⟩),[]):=by unfold propOf;rw [if_pos h0']
   rw [e] at hp
   exact absurd (by simpa using hp) h0'
  obtain ⟨hf,hc,hr⟩:=run_ok h0'
  cases hpo:possB B.1.1 B.1.2 with
  |false =>
   have e:propOf ⟨o,gs,r,pf,pt,c⟩ B.1.1 B.1.2=((zrow,(3,-5)),[]):=by unfold propOf;rw [if_neg (by simp [h0']),if_pos hpo]
   rw [e] at hp
   exact absurd hp (by decide)
  |true =>
  have e:propOf ⟨o,gs,r,pf,pt,c⟩ B.1.1 B.1.2=(((o,gs.length,r+1,B.1.1,B.1.2,c),(0,0)),gs.map clr):=by unfold propOf;rw [if_neg (by simp [h0']),if_neg (by simp [hpo])]
  rw [e]
  simp only at hc
  subst hc
  have hans:=ans_ok evs zs ⟨o,gs,r,pf,pt,false⟩ B.1.1 B.1.2 hf hr hpo gs.length 0 (by simp)
  have hSZ:(fun _=>false:Nat→Bool)=fun j=>decide (j<0):=by funext j;simp
  refine qtd (EC.isL_encL _ _) (qtd (EC.isL_encL _ _) (qtd (EC.isL_encL _ _) (qtd (EC.isL_encL _ _) ?_)))
  simp only [EC.decL_encL,AL_clr,hSZ]
  refine qta hans ?_
  refine qtd (EC.isL_encL _ _) ?_
  simp only [EC.decL_encL]
  have hv:=q9 (fun j=>decide (j<gs.length)) ⟨o,gs,r,pf,pt,false⟩ B.1.1 B.1.2 hf hr hpo
  have hal:(AL (fun j=>decide (j<gs.length)) 0 gs).length=gs.length:=AL_len ..
  have hag:agRes ⟨o,AL (fun j=>decide (j<gs.length)) 0 gs,r+1,B.1.1,B.1.2,false⟩=(true,(0,0)):=by
   unfold agRes
   simp only at hv
   rw [hv]
   have:gidx (fun g=>g.Answer != 1) 0 (AL (fun j=>decide (j<gs.length)) 0 gs)=-1:=by
    refine qj1 fun g hg=>?_
    obtain ⟨i,hi,rfl⟩:=List.getElem_of_mem hg
    rw [hal] at hi
    rw [AL_at _ _ _ hi]
    simp [hi]
   have hr1:0<r+1:=by
    have:=(mtg_ok hf).2.2.1
    simp only at this
    omega
   simp [this,hr1]
  have hA:=Agreed' o (AL (fun j=>decide (j<gs.length)) 0 gs) (r+1) B.1.1 B.1.2 false (by rw [hal];exact hg')
  rw [hag] at hA
  refine qta hA (qtd (EC.isL_encL _ _) (qtd (EC.isL_encL _ _) (qtd (EC.isL_encL _ _) ?_)))
  simp only [EC.decL_encL]
  refine qtb (chk_ok evs zs true B.1.1 B.1.2 o 0 (r+1) B.1.1 B.1.2 false gs.length 0 0 _ h5' hw (fun e hm=>qfv e zs (hw e hm) (h0 e hm) k1 k2 k3 (fun y a b=>k4 _ (List.mem_map.2 ⟨e,hm,rfl⟩) y a b)) evs.length 0 (by omega)) fun q hq=>?_
  subst hq
  refine qtc (fun _=>qte rfl) fun h=>?_
  simp at h)
 obtain ⟨x,e,rfl⟩:=h
 exact e
end
end Go.Proofs.YtfakibajjibjjaaGreatDoor
namespace Go.Proofs.YtfakibajjibjjaaGreatDoor
set_option linter.unusedSimpArgs false
open Go.ChangeShapes Go.WideShapes Go.ChangeAt Go.RowKit Go.Deep
theorem q13:ownKnob Tryz.prog.godebug=none:=by kernel_rfl
theorem q12:laidOutB Tryz.prog=true:=by kernel_rfl
section
variable {H:Type} {enc:TypeId×Value→H} {P:Program}
theorem q135 (hl:laidOutB P=true) {W W':World} (hb:Bel W W'):∀ {ts:List TypeId} {vs:List Value} {ds:List (DataW H)} {ps:List MemPlace},ts.all (fun t=>P.readableRec t&&decide (t<P.types.size))=true →
  DataW.TrodAll enc P W 0 (fun _=>true) true ts vs ds ps→(∀ x∈ps,x.block<W.heap.size)→DataW.TrodAll enc P W' 0 (fun b=>decide (b<W.heap.size)) true ts vs ds ps
 |[],[],[],_,_,h,_=>h
 |[],[],_::_,_,_,h,_=>h.elim
 |[],_::_,_,_,_,h,_=>h.elim
 |_::_,[],_,_,_,h,_=>h.elim
 |_::_,_::_,[],_,_,h,_=>h.elim
 |t::ts,v::vs,d::ds,ps,hr,h,hlt=>by
  obtain ⟨p,q,h1,h2,rfl⟩:=h
  simp only [List.all_cons,Bool.and_eq_true,decide_eq_true_eq] at hr
  exact ⟨p,q,Below.trod hl hr.1.1 hr.1.2 h1 hb (fun x hx=>hlt x (List.mem_append_left _ hx)),q135 hl hb hr.2 h2 (fun x hx=>hlt x (List.mem_append_right _ hx)),rfl⟩
theorem qor {fn:Func} {s:ChangeSpec} {W W':World} {args:Array Value} {ds gs:List (DataW H)} {before:List MemPlace} {tb:TypeId} (hl:laidOutB P=true)
  (hr:fn.params.toList.all (fun t=>P.readableRec t&&decide (t<P.types.size))=true) (hrt:fn.resultTypes=#[tb]) (htb:P.underlying tb=some .bool) (hvars:s.vars=[])
  (hfn:s.fn H ds={ results:=[.lit (.bool true)],args:=ds })
  (hW:DataW.Whole enc P fn.params.toList s.vars false W args.toList ds gs before) (hb:Bel W W'):s.post enc P fn false true false false W args (.bool true) W':=by
 have hW':=hW
 have hlt:∀ x∈before,x.block<W.heap.size:=fun x hx=>hW.lt x hx
 obtain ⟨p,q,hA,hV,rfl,hfz,hnd⟩:=hW
 rw [hvars] at hV
 obtain ⟨rfl,rfl⟩:=trodVars_none hV
 have e:s.fn H (ds++[])={ results:=[.lit (.bool true)],args:=ds }:=by rw [List.append_nil];exact hfn
 refine ⟨ds,[],p++[],[],p,[],hW',?_,?_,?_,hb.frame _,fun h=>by cases h⟩
 ·rw [e,hrt]
  exact trodAll_mk1 (shut_bool htb true)
 ·rw [e]
  exact q135 hl hb hr hA (fun x hx=>hlt x (by simpa using hx))
 ·rw [e,hvars]
  rfl
end
end Go.Proofs.YtfakibajjibjjaaGreatDoor
