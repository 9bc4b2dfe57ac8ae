/- What freebusy does with an event, in plain words. -/
import Derived.Test.YtjlkjiifkganoaaZ27
import Derived.Test.YtjlkjiifkganoaaZ29
import Derived.Test.YtjlkjiifkganoaaZ01
import Derived.Test.YtjlkjiifkganoaaChecked
import Derived.ProofKit
import Derived.OpenShut
import Derived.JoinedCond
import Derived.Deep.Slices
import Derived.Deep.Fields
import Derived.Lib.SmallJoins
namespace Go.Proofs.Ytjlkjiifkganoaa
set_option linter.unusedSimpArgs false
open Go.RowKit
set_option maxRecDepth 100000
section
attribute [local irreducible] gdE
abbrev Ev:=S38
abbrev Zo:=S47
def zt (z:Zo):ZT:=(z.Name,z.Standard,z.Summer,z.Begin_Month,z.Begin_Week,z.Begin_Weekday,z.Begin_Minute,z.End_Month,z.End_Week,z.End_Weekday,z.End_Minute)
def evS (x:Ev):DT:=(x.Start_Year,x.Start_Month,x.Start_Day,x.Start_Hour,x.Start_Minute,x.Start_Second,x.Start_Zone)
def evR (x:Ev):RT:=(x.Repeat_Frequency,x.Repeat_Every,x.Repeat_Count,x.Repeat_Until,x.Repeat_HasUntil,x.Repeat_Weekdays,x.Repeat_Except,x.Repeat_Add)
def inZ (x:Ev) (z:Zo):Bool:=z.Name.toList==x.Zone.toList
theorem zt_at (zs:List Zo) (k:Nat):(qtz (((qan.encL zs).getD k []).getD 0 .ne),qgm (((qan.encL zs).getD k []).getD 1 .ne),qgm (((qan.encL zs).getD k []).getD 2 .ne),qgm (((qan.encL zs).getD k []).getD 3 .ne),qgm (((qan.encL zs).getD k []).getD 4 .ne),qgm (((qan.encL zs).getD k []).getD 5 .ne),qgm (((qan.encL zs).getD k []).getD 6 .ne),qgm (((qan.encL zs).getD k []).getD 7 .ne),qgm (((qan.encL zs).getD k []).getD 8 .ne),qgm (((qan.encL zs).getD k []).getD 9 .ne),qgm (((qan.encL zs).getD k []).getD 10 .ne))=zt (zs.getD k (qan.dec [])):=by
 simp only [EC.decL_encL,EC.isL_encL,EC.encL_length,qgv,q2i,q1l,q1x,qr7,q11y,q11d,q11e,q10j,q10m,q13m,q13l,q13n,q11w,q10n,q10o,q10h,q10k,q12s,q12r,q12t,qgy,q37,q38,q11g,q11h,q11i,q11j,q11k,q11l,q11m,q11n,q11f,q1o,q20,q13o,qrz,qs1,q13q,q13s,q13r,q13t,q13u,q13v,q13x,q13w,q13y,q13z,q13p,q11x,q10p,q10q,q111,q116,q117,q118,q119,q11a,q11b,q11c,q10r,q10s,q10t,q10u,q10v,q10w,q10x,q10y,q10z,q110,q112,q113,q114,q115,q10i,q10l,q12v,q12u,q137,q13c,q13d,q13e,q13f,q13g,q13h,q13j,q13i,q13k,q12w,q12x,q12y,q12z,q130,q131,q133,q132,q134,q135,q136,q138,q139,q13a,q13b]
 rfl
def lowA (f L:Int):Int:=if f - 60*L < -68719476736 then -68719476736 else f - 60*L
noncomputable def betV (zs:List Zo) (x:Ev) (f t:Int):List Int×(Int×Int):=(betS (zt (zs.getD (gidx (inZ x) 0 zs).toNat (qan.dec []))) (evS x) (evR x) (lowA f x.Length) t).getD ([],0,0)
noncomputable def evP (zs:List Zo) (x:Ev) (f t:Int):Int×List Int :=
 if gidx (inZ x) 0 zs<0 then (6,[]) else if x.Length<0∨1000000<x.Length then (3,[]) else
  ((betV zs x f t).2.1,if x.Method=4 then [] else (betV zs x f t).1)
def clipP (f t L:Int) (a:Int):Pd:=⟨if a<f then f else a,if t<a+60*L then t else a+60*L⟩
theorem q59 (zs:List Zo) (x:Ev) (f t:Int) (hw:x.Repeat_Weekdays.length≤9223372036854775807):betS (zt (zs.getD (gidx (inZ x) 0 zs).toNat (qan.dec []))) (evS x) (evR x) (lowA f x.Length) t=some (betV zs x f t)∧BetP (lowA f x.Length) t (betV zs x f t):=by
 obtain ⟨r,hr,hp⟩:=q58 (zt (zs.getD (gidx (inZ x) 0 zs).toNat (qan.dec []))) (evS x) (evR x) (lowA f x.Length) t hw
 have:betV zs x f t=r:=by unfold betV;rw [hr];rfl
 rw [this]
 exact ⟨hr,hp⟩
theorem qg2 (x:Ev) (zs:List Zo) (hz:zs.length≤60):∀ (g k:Nat),k+g=zs.length→Ok (qg6 zs x.Uid x.Method x.Sequence x.Summary x.Place x.Organizer x.Guests x.Zone x.Start_Year x.Start_Month x.Start_Day x.Start_Hour x.Start_Minute x.Start_Second x.Start_Zone x.Length x.Repeat_Frequency x.Repeat_Every x.Repeat_Count x.Repeat_Until x.Repeat_HasUntil x.Repeat_Weekdays x.Repeat_Except x.Repeat_Add zs.length k) fun r=>Sum.elim (fun r=>r.1) (fun _=>-1) r=gidx (inZ x) k (zs.drop k):=by
 intro g
 induction g with
 |zero =>
  intro k hk
  refine .via qg8 ?_
  unfold qgd
  rw [show decide ((k:Int)<(zs.length:Int))=false by simp;omega]
  refine qkl (EC.isL_encL _ _) (qkl (EC.isL_encL _ _) (qkl (EC.isL_encL _ _) (qkl (EC.isL_encL _ _) (qkl (EC.isL_encL _ _) (qkm ?_)))))
  rw [List.drop_eq_nil_of_le (by omega)]
  rfl
 |succ g ih =>
  intro k hk
  have hlt:k<zs.length:=by omega
  refine .via qg8 ?_
  unfold qgd
  rw [show decide ((k:Int)<(zs.length:Int))=true by simp;omega,qy6 (n:=60) (by omega) (by omega)]
  refine qkl (by simp) (qkl (by rw [qgy];simp only [Bool.and_eq_true,decide_eq_true_eq,EC.encL_length,Int.toNat_natCast];omega) ?_)
  refine qkl (EC.isL_encL _ _) (qkl (EC.isL_encL _ _) (qkl (EC.isL_encL _ _) (qkl (EC.isL_encL _ _) ?_)))
  simp only [EC.decL_encL]
  refine qki (x:=inZ x zs[k]) (evz_eq ?_) ?_
  ·simp only [evz_t,inZ,EC.decL_encL,EC.isL_encL,EC.encL_length,qgv,q2i,q1l,q1x,qr7,q11y,q11d,q11e,q10j,q10m,q13m,q13l,q13n,q11w,q10n,q10o,q10h,q10k,q12s,q12r,q12t,qgy,q37,q38,q11g,q11h,q11i,q11j,q11k,q11l,q11m,q11n,q11f,q1o,q20,q13o,qrz,qs1,q13q,q13s,q13r,q13t,q13u,q13v,q13x,q13w,q13y,q13z,q13p,q11x,q10p,q10q,q111,q116,q117,q118,q119,q11a,q11b,q11c,q10r,q10s,q10t,q10u,q10v,q10w,q10x,q10y,q10z,q110,q112,q113,q114,q115,q10i,q10l,q12v,q12u,q137,q13c,q13d,q13e,q13f,q13g,q13h,q13j,q13i,q13k,q12w,q12x,q12y,q12z,q130,q131,q133,q132,q134,q135,q136,q138,q139,q13a,q13b,Int.toNat_natCast,qfo hlt]
  ·rw [qa0 hlt,gidx]
   refine qkk (fun h=>qkm ?_) fun h=>?_
   ·simp [h]
   ·rw [h,if_neg (by simp)]
    exact qkl (EC.isL_encL _ _) (qkl (EC.isL_encL _ _) (qkl (EC.isL_encL _ _) (qkl (EC.isL_encL _ _) (qkl (EC.isL_encL _ _) (ih (k+1) (by omega))))))
theorem qge (x:Ev) (zs:List Zo) (hz:zs.length≤60):idxZ_s zs x.Uid x.Method x.Sequence x.Summary x.Place x.Organizer x.Guests x.Zone x.Start_Year x.Start_Month x.Start_Day x.Start_Hour x.Start_Minute x.Start_Second x.Start_Zone x.Length x.Repeat_Frequency x.Repeat_Every x.Repeat_Count x.Repeat_Until x.Repeat_HasUntil x.Repeat_Weekdays x.Repeat_Except x.Repeat_Add=some (gidx (inZ x) 0 zs):=by
 have h:Ok (idxZ_s zs x.Uid x.Method x.Sequence x.Summary x.Place x.Organizer x.Guests x.Zone x.Start_Year x.Start_Month x.Start_Day x.Start_Hour x.Start_Minute x.Start_Second x.Start_Zone x.Length x.Repeat_Frequency x.Repeat_Every x.Repeat_Count x.Repeat_Until x.Repeat_HasUntil x.Repeat_Weekdays x.Repeat_Except x.Repeat_Add) fun r=>r=gidx (inZ x) 0 zs:=.via qg5 (by
  unfold idxZ_t
  refine qkl (EC.isL_encL _ _) (qkl (EC.isL_encL _ _) (qkl (EC.isL_encL _ _) (qkl (EC.isL_encL _ _) (qkl (EC.isL_encL _ _) ?_))))
  simp only [EC.decL_encL,EC.encL_length]
  refine qkj (qg2 x zs hz zs.length 0 (by omega)) fun r h=>?_
  rw [List.drop_zero] at h
  cases r with
  |inl r=>exact qkm h
  |inr r=>exact qkm h)
 obtain ⟨r,e,rfl⟩:=h
 exact e
end
end Go.Proofs.Ytjlkjiifkganoaa
namespace Go.Proofs.Ytjlkjiifkganoaa
set_option linter.unusedSimpArgs false
open Go.RowKit
set_option maxRecDepth 100000
section
attribute [local irreducible] gdE
theorem qbk (f t L:Int) (b0:ByteArray) (b1 b2:Int) (b3 b4 b5:ByteArray) (b6) (b7:ByteArray) (b8 b9 b10 b11 b12 b13 b14 b16 b17 b18 b19:Int) (b20:Bool) (b21 b22 b23:List Int) (hL:0≤L∧L≤1000000) (l:List Int) (hl:l.length≤1801) (hb:∀ a∈l,-68719476736≤a∧a≤68719476736) :
  ∀ (g k:Nat) (acc:List Pd),k+g=l.length→acc.length≤k→Ok (qbl f t acc.length l l.length k b0 b1 b2 b3 b4 b5 b6 b7 b8 b9 b10 b11 b12 b13 b14 L b16 b17 b18 b19 b20 b21 b22 b23 acc) fun r=>r.1.2.2.2.1=(acc++(l.drop k).map (clipP f t L)).length∧r.2.2=acc++(l.drop k).map (clipP f t L):=by
 intro g
 induction g with
 |zero =>
  intro k acc hk ha
  refine .via qbn ?_
  unfold qbr
  rw [show decide ((k:Int)<(l.length:Int))=false by simp;omega]
  refine qkl (EC.isL_encL _ _) (qkl (EC.isL_encL _ _) (qkl (EC.isL_encL _ _) (qkl (EC.isL_encL _ _) (qkl (EC.isL_encL _ _) (qkl (EC.isL_encL _ _) (qkm ?_))))))
  rw [List.drop_eq_nil_of_le (by omega)]
  simp only [List.map_nil,List.append_nil,EC.decL_encL,and_self]
 |succ g ih =>
  intro k acc hk ha
  have hlt:k<l.length:=by omega
  refine .via qbn ?_
  unfold qbr
  have hB:=hb _ (List.getElem_mem hlt)
  have hw:IntKind.i64.wrap (l[k]+IntKind.i64.wrap (60*L))=l[k]+60*L:=by rw [qy5 (x:=60*L) (by omega) (by omega),qy5 (by omega) (by omega)]
  rw [show decide ((k:Int)<(l.length:Int))=true by simp;omega,qy6 (n:=1801) (by omega) (by omega)]
  refine qkl (by simp) (qkl (by rw [qgv];simp only [Bool.and_eq_true,decide_eq_true_eq,EC.encL_length,Int.toNat_natCast];omega) ?_)
  simp only [q2i,q10m,Int.toNat_natCast,qfo hlt,hw,if_true,Bool.false_eq_true,if_false]
  refine qkl ?_ (qkl (EC.isL_encL _ _) (qkl (EC.isL_encL _ _) (qkl (EC.isL_encL _ _) (qkl (EC.isL_encL _ _) (qkl (EC.isL_encL _ _) (qkl (EC.isL_encL _ _) ?_))))))
  ·rw [q10j]
   simp only [List.all_cons,List.all_nil,List.length_cons,List.length_nil,Bool.and_true,beq_self_eq_true,Bool.true_and,Bool.and_eq_true,decide_eq_true_eq]
   omega
  simp only [EC.decL_encL]
  have:=ih (k+1) (acc++[clipP f t L l[k]]) (by omega) (by simp;omega)
  rw [qa0 hlt,List.map_cons]
  rw [List.append_assoc,List.singleton_append,List.length_append] at this
  exact this
theorem evt_sp (x:Ev) (zs:List Zo) (f t:Int) (hz:zs.length≤60) (hw:x.Repeat_Weekdays.length≤9223372036854775807) (hf:-68719476736≤f) (hft:f≤t) (ht:t≤68719476736) :
  evt_s x.Uid x.Method x.Sequence x.Summary x.Place x.Organizer x.Guests x.Zone x.Start_Year x.Start_Month x.Start_Day x.Start_Hour x.Start_Minute x.Start_Second x.Start_Zone x.Length x.Repeat_Frequency x.Repeat_Every x.Repeat_Count x.Repeat_Until x.Repeat_HasUntil x.Repeat_Weekdays x.Repeat_Except x.Repeat_Add zs f t
   = some ((((evP zs x f t).2.map (clipP f t x.Length)).length,(evP zs x f t).1),(evP zs x f t).2.map (clipP f t x.Length)):=by
 have h:Ok (evt_s x.Uid x.Method x.Sequence x.Summary x.Place x.Organizer x.Guests x.Zone x.Start_Year x.Start_Month x.Start_Day x.Start_Hour x.Start_Minute x.Start_Second x.Start_Zone x.Length x.Repeat_Frequency x.Repeat_Every x.Repeat_Count x.Repeat_Until x.Repeat_HasUntil x.Repeat_Weekdays x.Repeat_Except x.Repeat_Add zs f t) fun r=>r=((((evP zs x f t).2.map (clipP f t x.Length)).length,(evP zs x f t).1),(evP zs x f t).2.map (clipP f t x.Length)):=.via evt_eq (by
  unfold evt_t
  refine qkl (EC.isL_encL _ _) (qkl (EC.isL_encL _ _) (qkl (EC.isL_encL _ _) (qkl (EC.isL_encL _ _) (qkl (EC.isL_encL _ _) ?_))))
  simp only [EC.decL_encL,EC.encL_length]
  refine qki (qge x zs hz) ?_
  refine qkk (fun h0=>qkm ?_) fun h0=>?_
  ·simp at h0
   unfold evP
   rw [if_pos h0]
   rfl
  simp at h0
  refine qkk (fun h1=>?_) fun h1=>qkm ?_
  ·refine qkk (fun h2=>qkm ?_) fun h2=>?_
   ·simp at h2
    unfold evP
    rw [if_neg (by omega),if_pos (Or.inr h2)]
    rfl
   simp at h1 h2
   have hlt:(gidx (inZ x) 0 zs).toNat<zs.length:=by
    rcases qfq (inZ x) zs 0 with ⟨e,_⟩|⟨i,hi,e,_⟩
    ·omega
    ·rw [e];simpa using hi
   refine qkl (by simpa using h0) (qkl (by rw [qgy];simp only [Bool.and_eq_true,decide_eq_true_eq];exact ⟨hlt,hlt⟩) (qkl (EC.isL_encL _ _) (qkl (EC.isL_encL _ _) (qkl (EC.isL_encL _ _) ?_))))
   rw [zt_at]
   have hw1:IntKind.i64.wrap (f - IntKind.i64.wrap (60*x.Length))=f - 60*x.Length:=by
    rw [qy5 (x:=60*x.Length) (by omega) (by omega),qy5 (by omega) (by omega)]
   simp only [hw1,if_true]
   obtain ⟨hB,hP⟩:=q59 zs x f t hw
   refine qki hB ?_
   have hev:evP zs x f t=((betV zs x f t).2.1,if x.Method=4 then [] else (betV zs x f t).1):=by
    unfold evP
    rw [if_neg (by omega),if_neg (by omega)]
   refine qki (qbz _ _) ?_
   rw [hev]
   refine qkk (fun h3=>qkk (fun h4=>qkm ?_) fun h4=>?_) fun h3=>qkm ?_
   ·rw [if_pos (by simpa using h4)]
    rfl
   ·have h4':x.Method≠4:=by simpa using h4
    have h3':(betV zs x f t).2.1=0:=by simpa using h3
    rw [if_neg h4']
    refine qkl (EC.isL_encL _ _) (qkl (EC.isL_encL _ _) (qkl (EC.isL_encL _ _) (qkl (EC.isL_encL _ _) (qkl (EC.isL_encL _ _) ?_))))
    have hb:∀ a∈(betV zs x f t).1,-68719476736≤a∧a≤68719476736:=fun a ha=>by
     have h1:=hP.2.1 a ha
     have h2:=hP.2.2.2 h3'
     omega
    refine qkj (qbk f t x.Length _ _ _ _ _ _ _ _ _ _ _ _ _ _ _ _ _ _ _ _ _ _ _ ⟨by omega,by omega⟩ (betV zs x f t).1 hP.2.2.1 hb (betV zs x f t).1.length 0 [] (by omega) (by simp)) fun r hr=>?_
    rw [List.drop_zero,List.nil_append] at hr
    refine qkl (EC.isL_encL _ _) (qkm ?_)
    rw [hr.1,hr.2,h3']
   ·have h3':(betV zs x f t).2.1≠0:=by simpa using h3
    rw [hP.1 h3',ite_self]
    rfl
  ·simp at h1
   unfold evP
   rw [if_neg (by omega),if_pos (Or.inl h1)]
   rfl)
 obtain ⟨r,e,rfl⟩:=h
 exact e
end
set_option maxRecDepth 100000
section
attribute [local irreducible] gdE
noncomputable def zvP (z:Zo):Int×Int:=(pZval (zt z)).getD (0,0)
theorem zvP_ok (z:Zo):pZval (zt z)=some (zvP z):=by
 obtain ⟨r,hr,_⟩:=q108 z.Name z.Standard z.Summer z.Begin_Month z.Begin_Week z.Begin_Weekday z.Begin_Minute z.End_Month z.End_Week z.End_Weekday z.End_Minute
 have hr':pZval (zt z)=some r:=hr
 unfold zvP
 rw [hr']
 rfl
noncomputable def zF (k:Nat):List Zo→Int×Int
 |[]=>(0,0)
 |z::l=>if (zvP z).1=0 then zF (k+1) l else ((zvP z).1,-10 - (k:Int))
noncomputable def evC (zs:List Zo) (f t:Int) (k:Nat):List Ev→Int×Int
 |[]=>(0,0)
 |x::l=>if (evP zs x f t).1=0 then evC zs f t (k+1) l else ((evP zs x f t).1,(k:Int))
noncomputable def evL (zs:List Zo) (f t:Int):List Ev→List Pd
 |[]=>[]
 |x::l=>(evP zs x f t).2.map (clipP f t x.Length)++evL zs f t l
theorem qbj (zs:List Zo) (x:Ev) (f t:Int) (hw:x.Repeat_Weekdays.length≤9223372036854775807):(evP zs x f t).2.length≤1801:=by
 have hP:=(q59 zs x f t hw).2.2.2.1
 unfold evP
 split
 ·exact Nat.zero_le _
 split
 ·exact Nat.zero_le _
 dsimp only
 split
 ·exact Nat.zero_le _
 ·exact hP
theorem qbi (zs:List Zo) (f t:Int):∀ l:List Ev,(∀ x∈l,x.Repeat_Weekdays.length≤9223372036854775807)→(evL zs f t l).length≤1801*l.length
 |[],_=>Nat.le_refl 0
 |x::l,h=>by
  have h1:=qbj zs x f t (h x (by simp))
  have h2:=qbi zs f t l fun y hy=>h y (by simp [hy])
  simp only [evL,List.length_append,List.length_map,List.length_cons]
  omega
theorem of7_ok (evs:List Ev) (f t b0 b1:Int) (zs:List Zo) (hz:zs.length≤60):∀ (g k:Nat),k+g=zs.length→Ok (qcd evs zs f t zs zs.length k b0 b1) fun r =>
  if (zF k (zs.drop k)).1=0 then r=.inr ((evs,(zs,(f,(t,((),(zs,((zs.length:Int),((zs.length:Int),false)))))))),(b0,b1)) else r=.inl ((0,()),([],zF k (zs.drop k))):=by
 intro g
 induction g with
 |zero =>
  intro k hk
  refine .via qcf ?_
  unfold qck
  rw [show decide ((k:Int)<(zs.length:Int))=false by simp;omega]
  refine qkl (EC.isL_encL _ _) (qkl (EC.isL_encL _ _) (qkl (EC.isL_encL _ _) (qkm ?_)))
  rw [List.drop_eq_nil_of_le (by omega),zF,if_pos rfl]
  simp only [EC.decL_encL]
  rw [show k=zs.length by omega]
 |succ g ih =>
  intro k hk
  have hlt:k<zs.length:=by omega
  refine .via qcf ?_
  unfold qck
  rw [show decide ((k:Int)<(zs.length:Int))=true by simp;omega,qy6 (n:=60) (by omega) (by omega)]
  refine qkl (by simp) (qkl (by rw [qgy];simp only [Bool.and_eq_true,decide_eq_true_eq,EC.encL_length,Int.toNat_natCast];omega) ?_)
  rw [zt_at,Int.toNat_natCast,qfo hlt,qa0 hlt,zF]
  refine qki (zvP_ok zs[k]) (qki (qbz _ _) (qkk (fun h=>?_) fun h=>?_))
  ·have h':(zvP zs[k]).1≠0:=by simpa using h
   rw [if_neg h']
   refine qki (qc1 _ _) (qkm ?_)
   rw [if_neg h',qy5 (by omega) (by omega)]
   rfl
  ·have h':(zvP zs[k]).1=0:=by simpa using h
   rw [if_pos h']
   refine qkl (EC.isL_encL _ _) (qkl (EC.isL_encL _ _) (qkl (EC.isL_encL _ _) ?_))
   simp only [EC.decL_encL]
   exact ih (k+1) (by omega)
theorem qkh (zs:List Zo) (f t b0 b1:Int) (evs:List Ev) (hz:zs.length≤60) (hn:evs.length≤20) (hw:∀ x∈evs,x.Repeat_Weekdays.length≤9223372036854775807) (hf:-68719476736≤f) (hft:f≤t) (ht:t≤68719476736) :
  ∀ (g k:Nat) (acc:List Pd),k+g=evs.length→acc.length≤1801*k→Ok (qc5 zs f t acc.length evs evs.length k b0 b1 acc) fun r =>
  if (evC zs f t k (evs.drop k)).1=0 then ∃ u,r=.inr (u,((b0,b1),acc++evL zs f t (evs.drop k))) else r=.inl ((0,()),([],evC zs f t k (evs.drop k))):=by
 intro g
 induction g with
 |zero =>
  intro k acc hk ha
  refine .via qc7 ?_
  unfold qcc
  rw [show decide ((k:Int)<(evs.length:Int))=false by simp;omega]
  refine qkl (EC.isL_encL _ _) (qkl (EC.isL_encL _ _) (qkl (EC.isL_encL _ _) (qkm ?_)))
  rw [List.drop_eq_nil_of_le (by omega),evC,if_pos rfl]
  simp only [EC.decL_encL,evL,List.append_nil]
  exact ⟨_,rfl⟩
 |succ g ih =>
  intro k acc hk ha
  have hlt:k<evs.length:=by omega
  have hx:=hw _ (List.getElem_mem hlt)
  refine .via qc7 ?_
  unfold qcc
  rw [show decide ((k:Int)<(evs.length:Int))=true by simp;omega,qy6 (n:=20) (by omega) (by omega)]
  refine qkl (by simp) (qkl (by rw [q11x];simp only [Bool.and_eq_true,decide_eq_true_eq,EC.encL_length,Int.toNat_natCast];omega) ?_)
  simp only [EC.decL_encL,EC.isL_encL,EC.encL_length,qgv,q2i,q1l,q1x,qr7,q11y,q11d,q11e,q10j,q10m,q13m,q13l,q13n,q11w,q10n,q10o,q10h,q10k,q12s,q12r,q12t,qgy,q37,q38,q11g,q11h,q11i,q11j,q11k,q11l,q11m,q11n,q11f,q1o,q20,q13o,qrz,qs1,q13q,q13s,q13r,q13t,q13u,q13v,q13x,q13w,q13y,q13z,q13p,q11x,q10p,q10q,q111,q116,q117,q118,q119,q11a,q11b,q11c,q10r,q10s,q10t,q10u,q10v,q10w,q10x,q10y,q10z,q110,q112,q113,q114,q115,q10i,q10l,q12v,q12u,q137,q13c,q13d,q13e,q13f,q13g,q13h,q13j,q13i,q13k,q12w,q12x,q12y,q12z,q130,q131,q133,q132,q134,q135,q136,q138,q139,q13a,q13b,Int.toNat_natCast,qfo hlt,EC.decL_encL]
  refine qkl (by first|rfl|exact EC.isL_encL _ _) (qkl (by first|rfl|exact EC.isL_encL _ _) (qkl (by first|rfl|exact EC.isL_encL _ _) (qkl (by first|rfl|exact EC.isL_encL _ _) (qkl (by first|rfl|exact EC.isL_encL _ _) ?_))))
  refine qki (evt_sp evs[k] zs f t hz hx hf hft ht) ?_
  rw [qa0 hlt,evC]
  refine qkk (fun h=>?_) fun h=>?_
  ·have h':(evP zs evs[k] f t).1≠0:=by simpa using h
   rw [if_neg h']
   refine qki (qc1 _ _) (qkm ?_)
   rw [if_neg h']
   rfl
  ·have h':(evP zs evs[k] f t).1=0:=by simpa using h
   have hlen:=qbj zs evs[k] f t hx
   rw [if_pos h',qa]
   refine qkl ?_ (qkl (by first|rfl|exact EC.isL_encL _ _) (qkl (by first|rfl|exact EC.isL_encL _ _) (qkl (by first|rfl|exact EC.isL_encL _ _) ?_)))
   ·simp only [q10j]
    simp only [Bool.and_self,Bool.true_and,Bool.and_eq_true,decide_eq_true_eq,EC.encL_length,List.length_map]
    omega
   simp only [EC.decL_encL,EC.encL_length,evL]
   have:=ih (k+1) (acc++(evP zs evs[k] f t).2.map (clipP f t evs[k].Length)) (by omega) (by simp only [List.length_append,List.length_map];omega)
   rw [List.append_assoc,List.length_append] at this
   exact this
noncomputable def fbR (evs:List Ev) (zs:List Zo) (f t:Int):(Int×Int)×List Pd :=
 if 20<evs.length∨60<zs.length then ((2,-1),[]) else if (spanFault f t).1≠0 then (spanFault f t,[]) else if (zF 0 zs).1≠0 then (zF 0 zs,[]) else
  if (evC zs f t 0 evs).1≠0 then (evC zs f t 0 evs,[]) else ((0,0),unionU (evL zs f t evs))
theorem qcl (evs:List Ev) (zs:List Zo) (f t:Int) (hw:∀ x∈evs,x.Repeat_Weekdays.length≤9223372036854775807):fbOf_s evs zs f t=some (((fbR evs zs f t).2.length,(fbR evs zs f t).1),(fbR evs zs f t).2):=by
 have h:Ok (fbOf_s evs zs f t) fun r=>r=(((fbR evs zs f t).2.length,(fbR evs zs f t).1),(fbR evs zs f t).2):=.via qc4 (by
  unfold fbOf_t
  simp only [EC.encL_length,EC.decL_encL]
  refine qkk (fun h1=>?_) fun h1=>qki (qc1 _ _) (qkm ?_)
  ·refine qkk (fun h2=>qki (qc1 _ _) (qkm ?_)) fun h2=>?_
   ·simp at h2
    unfold fbR
    rw [if_pos (Or.inr (by omega))]
    rfl
   simp at h1 h2
   have h12:¬ (20<evs.length∨60<zs.length):=by omega
   refine qki (span_s f t) (qki (qbz _ _) (qkk (fun h3=>qkm ?_) fun h3=>?_))
   ·have h3':(spanFault f t).1≠0:=by simpa using h3
    unfold fbR
    rw [if_neg h12,if_pos h3']
    rfl
   have h3':(spanFault f t).1=0:=by simpa using h3
   obtain ⟨hf,hft,ht,_⟩:=qt6 h3'
   refine qkl (EC.isL_encL _ _) (qkl (EC.isL_encL _ _) (qkl (EC.isL_encL _ _) ?_))
   refine qkj (of7_ok evs f t 0 0 zs (by omega) zs.length 0 (by omega)) fun r hr=>?_
   rw [List.drop_zero] at hr
   by_cases hz:(zF 0 zs).1=0
   ·rw [if_pos hz] at hr
    subst hr
    refine qkl (EC.isL_encL _ _) (qkl (EC.isL_encL _ _) ?_)
    refine qkj (qkh zs f t 0 0 evs (by omega) (by omega) hw hf hft ht evs.length 0 [] (by omega) (by simp)) fun r hr=>?_
    rw [List.drop_zero,List.nil_append] at hr
    by_cases he:(evC zs f t 0 evs).1=0
    ·rw [if_pos he] at hr
     obtain ⟨u,rfl⟩:=hr
     refine qkl (EC.isL_encL _ _) ?_
     have hlen:=qbi zs f t evs hw
     have hU:unionS (evL zs f t evs)=some ((unionU (evL zs f t evs)).length,unionU (evL zs f t evs)):=by
      unfold unionS
      rw [if_pos (by omega)]
     refine qki hU (qki none_s (qkl (EC.isL_encL _ _) (qkm ?_)))
     unfold fbR
     rw [if_neg h12,if_neg (by simpa using h3'),if_neg (by simpa using hz),if_neg (by simpa using he)]
    ·rw [if_neg he] at hr
     subst hr
     refine qkl (EC.isL_encL _ _) (qkm ?_)
     unfold fbR
     rw [if_neg h12,if_neg (by simpa using h3'),if_neg (by simpa using hz),if_pos he]
     rfl
   ·rw [if_neg hz] at hr
    subst hr
    refine qkl (EC.isL_encL _ _) (qkm ?_)
    unfold fbR
    rw [if_neg h12,if_neg (by simpa using h3'),if_pos hz]
    rfl
  ·simp at h1
   unfold fbR
   rw [if_pos (Or.inl (by omega))]
   rfl)
 obtain ⟨r,e,rfl⟩:=h
 exact e
end
set_option maxRecDepth 100000
theorem q10g {l:List Pd} (h:NF l):∀ p∈l,∀ q∈l,p=q∨p.To<q.From∨q.To<p.From:=by
 induction l with
 |nil=>intro p hp;cases hp
 |cons a l ih =>
  intro p hp q hq
  rcases List.mem_cons.1 hp with rfl|hp' <;> rcases List.mem_cons.1 hq with rfl|hq'
  ·exact .inl rfl
  ·exact .inr (.inl (h.2.1 q hq'))
  ·exact .inr (.inr (h.2.1 p hp'))
  ·exact ih h.2.2 p hp' q hq'
theorem runIn2 {l:List Pd} (h:NF l) {s n:Int} (hn:1≤n) (hr:∀ x,s≤x→x<s+n→Inn l x):∃ q∈l,q.From≤s∧s+n≤q.To:=by
 obtain ⟨q,hq,h1,h2⟩:=hr s (Int.le_refl _) (by omega)
 refine ⟨q,hq,h1,?_⟩
 rcases Int.lt_or_le q.To (s+n) with h3|h3
 ·obtain ⟨r,hr',h4,h5⟩:=hr q.To (by omega) h3
  rcases q10g h q hq r hr' with e|e|e
  ·subst e;omega
  ·omega
  ·omega
 ·exact h3
def canc (x:Ev):Ev:={ x with Method:=4 }
theorem canc_P (zs:List Zo) (x:Ev) (f t:Int):(evP zs (canc x) f t).1=(evP zs x f t).1∧(evP zs (canc x) f t).2=[]:=by
 have e1:gidx (inZ (canc x)) 0 zs=gidx (inZ x) 0 zs:=rfl
 have e2:betV zs (canc x) f t=betV zs x f t:=rfl
 have e3:(canc x).Length=x.Length:=rfl
 have e4:(canc x).Method=4:=rfl
 unfold evP
 rw [e1,e2,e3,e4]
 by_cases h1:gidx (inZ x) 0 zs<0
 ·simp [h1]
 ·by_cases h2:x.Length<0∨1000000<x.Length
  ·simp [h1,h2]
  ·simp [h1,h2]
theorem canc_C (zs:List Zo) (f t:Int):∀ (l:List Ev) (i k:Nat) (h:i<l.length),evC zs f t k (l.set i (canc l[i]))=evC zs f t k l
 |[],i,k,h=>by simp at h
 |x::l,0,k,h=>by
  simp only [List.set_cons_zero,List.getElem_cons_zero,evC,(canc_P zs x f t).1]
 |x::l,i+1,k,h=>by
  simp only [List.set_cons_succ,List.getElem_cons_succ,evC,canc_C zs f t l i (k+1) (by simpa using h)]
theorem canc_L (zs:List Zo) (f t x:Int):∀ (l:List Ev) (i:Nat) (h:i<l.length),Inn (evL zs f t (l.set i (canc l[i]))) x→Inn (evL zs f t l) x
 |[],i,h,_=>by simp at h
 |e::l,0,h,hx=>by
  simp only [List.set_cons_zero,List.getElem_cons_zero,evL,(canc_P zs e f t).2,List.map_nil,List.nil_append] at hx ⊢
  rw [qi]
  exact .inr hx
 |e::l,i+1,h,hx=>by
  simp only [List.set_cons_succ,List.getElem_cons_succ,evL,qi] at hx ⊢
  rcases hx with hx|hx
  ·exact .inl hx
  ·exact .inr (canc_L zs f t x l i (by simpa using h) hx)
theorem canc_R (zs:List Zo) (f t:Int) (l:List Ev) (i:Nat) (h:i<l.length) (h0:(fbR l zs f t).1.1=0) :
  (fbR (l.set i (canc l[i])) zs f t).1.1=0∧∀ p∈(fbR (l.set i (canc l[i])) zs f t).2,∃ q∈(fbR l zs f t).2,q.From≤p.From∧p.To≤q.To:=by
 unfold fbR at h0 ⊢
 rw [List.length_set,canc_C]
 by_cases h1:20<l.length∨60<zs.length
 ·rw [if_pos h1] at h0;exact absurd h0 (by decide)
 by_cases h2:(spanFault f t).1≠0
 ·rw [if_neg h1,if_pos h2] at h0;exact absurd h0 h2
 by_cases h3:(zF 0 zs).1≠0
 ·rw [if_neg h1,if_neg h2,if_pos h3] at h0;exact absurd h0 h3
 by_cases h4:(evC zs f t 0 l).1≠0
 ·rw [if_neg h1,if_neg h2,if_neg h3,if_pos h4] at h0;exact absurd h0 h4
 simp only [if_neg h1,if_neg h2,if_neg h3,if_neg h4]
 refine ⟨trivial,fun p hp=>?_⟩
 obtain ⟨n1,u1⟩:=qwz (evL zs f t (l.set i (canc l[i])))
 obtain ⟨n2,u2⟩:=qwz (evL zs f t l)
 have hlt:=NF_mem n1 hp
 obtain ⟨q,hq,a,b⟩:=runIn2 n2 (s:=p.From) (n:=p.To - p.From) (by omega) fun x hx hx2=>by
  rw [u2]
  refine canc_L zs f t x l i h ?_
  rw [←u1]
  exact ⟨p,hp,hx,by omega⟩
 exact ⟨q,hq,a,by omega⟩
set_option maxRecDepth 100000
section
attribute [local irreducible] gdE
def covB (s p:Pd):Bool:=decide (p.From≤s.From)&&decide (s.To≤p.To)
theorem row2 (l:List Pd) (n j:Nat) (h:n<l.length) (hj:j<2):isP [K1.int IntKind.i64] j ((q11q.encL l).getD n [])=true:=by
 rw [EC.getD_lt _ _ h]
 match j,hj with
 |0,_=>rfl
 |1,_=>rfl
theorem l14_ok (a b:List Pd) (i:Nat) (hi:i<b.length) (ha:a.length≤1000000):∀ (g n:Nat) (q:Bool),n+g=a.length→Ok (q12d a.length b.length i q n a b) fun r=>r=((a.length,(b.length,((i:Int),(q||(a.drop n).any (covB b[i]),((a.length:Int),false))))),(a,b)):=by
 intro g
 induction g with
 |zero =>
  intro n q hn
  refine .via q12f ?_
  unfold q12j
  rw [show decide ((n:Int)<(a.length:Int))=false by simp;omega]
  refine qkl (EC.isL_encL _ _) (qkl (EC.isL_encL _ _) (qkm ?_))
  rw [List.drop_eq_nil_of_le (by omega)]
  simp only [EC.decL_encL,List.any_nil,Bool.or_false]
  rw [show n=a.length by omega]
 |succ g ih =>
  intro n q hn
  have hlt:n<a.length:=by omega
  refine .via q12f ?_
  unfold q12j
  rw [qy6 (n:=1000000) (by omega) (by omega)]
  refine qkk (fun _=>?_) fun h=>absurd h (by simp;omega)
  have g0:(decide ((0:Int)≤(n:Int))&&decide ((n:Int)<(a.length:Int)))=true:=by simp;omega
  have g1:(decide (((n:Int)).toNat<(q11q.encL a).length)&&(((q11q.encL a).getD ((n:Int)).toNat []).length==2))=true:=by
   rw [Int.toNat_natCast,len_40 _ _ hlt,EC.encL_length];simp;omega
  have k0:(decide ((0:Int)≤(i:Int))&&decide ((i:Int)<(b.length:Int)))=true:=by simp;omega
  have k1:(decide (((i:Int)).toNat<(q11q.encL b).length)&&(((q11q.encL b).getD ((i:Int)).toNat []).length==2))=true:=by
   rw [Int.toNat_natCast,len_40 _ _ hi,EC.encL_length];simp;omega
  rw [qa0 hlt,List.any_cons]
  refine qkk (fun hq=>?_) fun hq=>?_
  ·have hq':q=false:=by simpa using hq
   subst hq'
   refine qkl g0 (qkl g1 (qkl (by rw [Int.toNat_natCast];exact row2 a n 0 hlt (by decide)) (qkl k0 (qkl k1 (qkl (by rw [Int.toNat_natCast];exact row2 b i 0 hi (by decide)) ?_)))))
   simp only [q11d,q11e,Int.toNat_natCast,qfo hlt,qfo hi]
   rw [Int.toNat_natCast] at g1 k1
   refine qkk (fun h=>?_) fun h=>?_
   ·refine qkl k0 (qkl k1 (qkl (row2 b i 1 hi (by decide)) (qkl g0 (qkl g1 (qkl (row2 a n 1 hlt (by decide)) (qkl (EC.isL_encL _ _) (qkl (EC.isL_encL _ _) ?_)))))))
    simp only [EC.decL_encL]
    have hc:covB b[i] a[n]=decide (b[i].To≤a[n].To):=by
     unfold covB
     rw [show decide (a[n].From≤b[i].From)=true by simpa using h,Bool.true_and]
    have:=ih (n+1) (decide (b[i].To≤a[n].To)) (by omega)
    rw [hc,Bool.false_or]
    exact this
   ·refine qkl (EC.isL_encL _ _) (qkl (EC.isL_encL _ _) ?_)
    simp only [EC.decL_encL]
    have hc:covB b[i] a[n]=false:=by
     unfold covB
     rw [show decide (a[n].From≤b[i].From)=false by simpa using h,Bool.false_and]
    have:=ih (n+1) false (by omega)
    rw [hc,Bool.false_or]
    exact this
  ·have hq':q=true:=by simpa using hq
   subst hq'
   refine qkl (EC.isL_encL _ _) (qkl (EC.isL_encL _ _) ?_)
   simp only [EC.decL_encL]
   have:=ih (n+1) true (by omega)
   simp only [Bool.true_or] at this ⊢
   exact this
theorem l10_ok (a b:List Pd) (ha:a.length≤1000000) (hb:b.length≤1000000) (h:∀ s∈b,∃ p∈a,p.From≤s.From∧s.To≤p.To):∀ (g i:Nat),i+g=b.length→Ok (q125 a.length b.length i a b) fun r=>∃ u,r=.inr u:=by
 intro g
 induction g with
 |zero =>
  intro i hi
  refine .via q127 ?_
  unfold q12c
  rw [show decide ((i:Int)<(b.length:Int))=false by simp;omega]
  exact qkl (EC.isL_encL _ _) (qkl (EC.isL_encL _ _) (qkm ⟨_,rfl⟩))
 |succ g ih =>
  intro i hi
  have hlt:i<b.length:=by omega
  refine .via q127 ?_
  unfold q12c
  rw [show decide ((i:Int)<(b.length:Int))=true by simp;omega]
  refine qkl (EC.isL_encL _ _) (qkl (EC.isL_encL _ _) ?_)
  simp only [EC.decL_encL]
  refine qkj (l14_ok a b i hlt ha a.length 0 false (by omega)) ?_
  rintro _ rfl
  have hany:a.any (covB b[i])=true:=by
   obtain ⟨p,hp,h1,h2⟩:=h _ (List.getElem_mem hlt)
   exact List.any_eq_true.2 ⟨p,hp,by simp [covB,h1,h2]⟩
  dsimp only
  rw [List.drop_zero,hany,qy6 (n:=1000000) (by omega) (by omega)]
  refine qkk (fun h2=>absurd h2 (by simp)) fun _=>?_
  exact qkl (EC.isL_encL _ _) (qkl (EC.isL_encL _ _) (ih (i+1) (by omega)))
theorem q11u {evs:List Ev} {zs:List Zo} {f t:Int} (h:(fbR evs zs f t).1.1=0):evs.length≤20:=by
 rcases Nat.lt_or_ge 20 evs.length with h1|h1
 ·unfold fbR at h
  rw [if_pos (Or.inl h1)] at h
  exact absurd h (by decide)
 ·exact h1
theorem q11v (evs:List Ev) (zs:List Zo) (f t:Int) (hw:∀ x∈evs,x.Repeat_Weekdays.length≤9223372036854775807):(fbR evs zs f t).2.length≤1000000:=by
 have h1:=qbi zs f t evs hw
 have h2:=qwy (evL zs f t evs)
 unfold fbR
 split
 ·exact Nat.zero_le _
 rename_i h0
 split
 ·exact Nat.zero_le _
 split
 ·exact Nat.zero_le _
 split
 ·exact Nat.zero_le _
 ·show (unionU (evL zs f t evs)).length≤1000000
  omega
theorem q140 (evs:List Ev) (k:Nat) (hk:k<evs.length):(q11p.encL evs).set k (splice ((q11p.encL evs).getD k []) 1 [C.int IntKind.i64 4])=q11p.encL (evs.set k (canc evs[k])):=by
 rw [EC.getD_lt _ _ hk]
 simp [EC.encL,List.map_set,q11s,splice,List.getD_eq_getElem?_getD,hk,canc]
theorem q12o (evs:List Ev) (zs:List Zo) (f t k:Int) (hw:∀ x∈evs,x.Repeat_Weekdays.length≤9223372036854775807) (hl:evs.length≤9223372036854775807):q12n evs zs f t k=some true:=by
 have h:Ok (q12n evs zs f t k) fun r=>r=true:=.via q124 (by
  unfold q12p
  refine qkl (EC.isL_encL _ _) (qkl (EC.isL_encL _ _) ?_)
  simp only [EC.encL_length,EC.decL_encL]
  refine qki (qcl evs zs f t hw) ?_
  refine qkk (fun h0=>qki (in_s _ _ _) ?_) fun _=>qki qxe (qkm rfl)
  have h0':(fbR evs zs f t).1.1=0:=by simpa using h0
  have hlen:=q11u h0'
  rw [qy5 (x:=(evs.length:Int) - 1) (by omega) (by omega)]
  refine qkk (fun _=>qki qxe (qkm rfl)) fun h1=>?_
  have hk:0≤k∧k≤(evs.length:Int) - 1:=by
   simp [inB] at h1
   omega
  obtain ⟨m,rfl⟩:∃ m:Nat,k=m:=⟨k.toNat,by omega⟩
  have hm:m<evs.length:=by omega
  refine qkl ?_ (qkl (by simp;omega) (qkl (by rw [Int.toNat_natCast,len_38 _ _ hm];simp;omega) ?_))
  ·rw [q10i]
   simp only [Bool.true_and,Bool.and_eq_true,decide_eq_true_eq]
   omega
  simp only [Int.toNat_natCast]
  rw [q140 evs m hm]
  refine qkl (EC.isL_encL _ _) (qkl (EC.isL_encL _ _) ?_)
  rw [EC.decL_encL]
  have hw2:∀ x∈evs.set m (canc evs[m]),x.Repeat_Weekdays.length≤9223372036854775807:=fun x hx=>by
   rcases List.mem_or_eq_of_mem_set hx with hx|rfl
   ·exact hw x hx
   ·exact hw evs[m] (List.getElem_mem hm)
  obtain ⟨c1,c2⟩:=canc_R zs f t evs m hm h0'
  refine qki (qcl _ zs f t hw2) (qkk (fun h2=>absurd h2 (by simp [c1])) fun _=>?_)
  refine qkl (EC.isL_encL _ _) (qkl (EC.isL_encL _ _) ?_)
  simp only [EC.decL_encL]
  refine qkj (l10_ok _ _ (q11v _ _ _ _ hw) (q11v _ _ _ _ hw2) c2 _ 0 (Nat.zero_add _)) ?_
  rintro _ ⟨u,rfl⟩
  exact qki qxe (qkm rfl))
 obtain ⟨r,e,rfl⟩:=h
 exact e
end
end Go.Proofs.Ytjlkjiifkganoaa
namespace Go.Proofs.Ytjlkjiifkganoaa
set_option linter.unusedSimpArgs false
open Go.ChangeShapes Go.WideShapes Go.ChangeAt Go.RowKit Go.Deep
section
variable {H:Type} {enc:TypeId×Value→H} {P:Program}
theorem qvy (hl:laidOutB P=true) {W W':World} (hb:Bel W W'):∀ {ts:List TypeId} {vs:List Value} {ds:List (DataW H)} {ps:List MemPlace},ts.all (fun t=>P.readableRec t&&decide (t<P.types.size))=true →
  DataW.TrodAll enc P W 0 (fun _=>true) true ts vs ds ps→(∀ x∈ps,x.block<W.heap.size)→DataW.TrodAll enc P W' 0 (fun b=>decide (b<W.heap.size)) true ts vs ds ps
 |[],[],[],_,_,h,_=>h
 |[],[],_::_,_,_,h,_=>h.elim
 |[],_::_,_,_,_,h,_=>h.elim
 |_::_,[],_,_,_,h,_=>h.elim
 |_::_,_::_,[],_,_,h,_=>h.elim
 |t::ts,v::vs,d::ds,ps,hr,h,hlt=>by
  obtain ⟨p,q,h1,h2,rfl⟩:=h
  simp only [List.all_cons,Bool.and_eq_true,decide_eq_true_eq] at hr
  exact ⟨p,q,Below.trod hl hr.1.1 hr.1.2 h1 hb (fun x hx=>hlt x (List.mem_append_left _ hx)),qvy hl hb hr.2 h2 (fun x hx=>hlt x (List.mem_append_right _ hx)),rfl⟩
theorem qiw {fn:Func} {s:ChangeSpec} {W W':World} {args:Array Value} {ds gs:List (DataW H)} {before:List MemPlace} {tb:TypeId} (hl:laidOutB P=true)
  (hr:fn.params.toList.all (fun t=>P.readableRec t&&decide (t<P.types.size))=true) (hrt:fn.resultTypes=#[tb]) (htb:P.underlying tb=some .bool) (hvars:s.vars=[])
  (hfn:s.fn H ds={ results:=[.lit (.bool true)],args:=ds })
  (hW:DataW.Whole enc P fn.params.toList s.vars false W args.toList ds gs before) (hb:Bel W W'):s.post enc P fn false true false false W args (.bool true) W':=by
 have hW':=hW
 have hlt:∀ x∈before,x.block<W.heap.size:=fun x hx=>hW.lt x hx
 obtain ⟨p,q,hA,hV,rfl,hfz,hnd⟩:=hW
 rw [hvars] at hV
 obtain ⟨rfl,rfl⟩:=trodVars_none hV
 have e:s.fn H (ds++[])={ results:=[.lit (.bool true)],args:=ds }:=by rw [List.append_nil];exact hfn
 refine ⟨ds,[],p++[],[],p,[],hW',?_,?_,?_,hb.frame _,fun h=>by cases h⟩
 ·rw [e,hrt]
  exact trodAll_mk1 (shut_bool htb true)
 ·rw [e]
  exact qvy hl hb hr hA (fun x hx=>hlt x (by simpa using hx))
 ·rw [e,hvars]
  rfl
end
end Go.Proofs.Ytjlkjiifkganoaa
