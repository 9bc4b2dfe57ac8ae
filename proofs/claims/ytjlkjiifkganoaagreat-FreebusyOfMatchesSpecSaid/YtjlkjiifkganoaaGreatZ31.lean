/- The laws of freebusy hold: plain words. -/
import Derived.Test.YtjlkjiifkganoaaGreatV3
import Derived.Test.YtjlkjiifkganoaaGreatZ27
namespace Go.Proofs.YtjlkjiifkganoaaGreat
open Go.RowKit
def freeR (l:List Pd) (f t n:Int):(Nat×(Int×Int))×List Pd :=
 if (perFault l).1≠0 then ((0,perFault l),[]) else if (spanFault f t).1≠0 then ((0,spanFault f t),[])
 else if n<1∨68719476736<n then ((0,3,-3),[]) else (((gp t n f (unionU l)).length,0,0),gp t n f (unionU l))
theorem free_s (l:List Pd) (f t n:Int) (hn:l.length≤9223372036854775807):qeh l f t n=some (freeR l f t n):=qeg (by
 simp only [qei,q5n,qfl,EC.decL_encL,EC.isL_encL,qc,q6z l hn,span_s,qbz,qc1,none_s,Option.bind_some,if_true,beq_f]
 unfold freeR
 by_cases h1:(perFault l).1=0
 ·obtain ⟨hb,hl,_⟩:=ql7 h1
  by_cases h2:(spanFault f t).1=0
  ·obtain ⟨a,b,c,_⟩:=qt6 h2
   by_cases h3:n<1
   ·simp [h1,h2,h3]
   ·by_cases h4:68719476736<n
    ·simp [h1,h2,h3,h4]
    ·simp [h1,h2,h3,h4,gaps_s l f t n hb (by omega) (by omega) (by omega)]
  ·simp [h1,h2]
 ·simp [h1])
theorem qqk (a:List Pd):sameL a a=true:=by simp [sameL]
theorem qxe:qlh=some true:=qlg (by
 have e1:qan.decL [[C.int .i64 5,C.int .i64 9],[C.int .i64 1,C.int .i64 5],[C.int .i64 20,C.int .i64 20]]=[⟨5,9⟩,⟨1,5⟩,⟨20,20⟩]:=rfl
 have e2:qan.decL [[C.int .i64 1,C.int .i64 9]]=[⟨1,9⟩]:=rfl
 have e3:qan.decL [[C.int .i64 9,C.int .i64 20]]=[⟨9,20⟩]:=rfl
 have u1:unionU [⟨5,9⟩,⟨1,5⟩,⟨20,20⟩]=[⟨1,9⟩]:=qwx ⟨by decide,by simp,trivial⟩ fun x=>by simp [Inn];omega
 have u2:unionU [⟨1,9⟩]=[⟨1,9⟩]:=qwx ⟨by decide,by simp,trivial⟩ fun x=>Iff.rfl
 have p1:perFault [⟨5,9⟩,⟨1,5⟩,⟨20,20⟩]=(0,0):=by decide
 have p2:perFault [⟨1,9⟩]=(0,0):=by decide
 have f1:freeR [⟨1,9⟩] 0 20 5=((1,0,0),[⟨9,20⟩]):=by
  unfold freeR
  rw [p2,u2]
  have:spanFault 0 20=(0,0):=by decide
  rw [this]
  have:gp 20 5 0 [⟨1,9⟩]=[⟨9,20⟩]:=by decide
  simp [this]
 simp only [qli,q5n,qfl,EC.decL_encL,EC.isL_encL,e1,e2,e3,qjv _ (show [(⟨5,9⟩:Pd),⟨1,5⟩,⟨20,20⟩].length≤9223372036854775807 by decide),p1,u1,Option.bind_some,if_true,free_s _ _ _ _ (show [(⟨1,9⟩:Pd)].length≤9223372036854775807 by decide),f1,same_s _ _ (show [(⟨1,9⟩:Pd)].length≤9223372036854775807 by decide),same_s _ _ (show [(⟨9,20⟩:Pd)].length≤9223372036854775807 by decide),qqk]
 simp)
end Go.Proofs.YtjlkjiifkganoaaGreat
namespace Go.Proofs.YtjlkjiifkganoaaGreat
open Go.RowKit
set_option maxRecDepth 100000
section
attribute [local irreducible] gdE
abbrev Ev:=S42
abbrev Zo:=S34
def zt (z:Zo):ZT:=(z.Name,z.Standard,z.Summer,z.Begin_Month,z.Begin_Week,z.Begin_Weekday,z.Begin_Minute,z.End_Month,z.End_Week,z.End_Weekday,z.End_Minute)
def evS (x:Ev):DT:=(x.Start_Year,x.Start_Month,x.Start_Day,x.Start_Hour,x.Start_Minute,x.Start_Second,x.Start_Zone)
def evR (x:Ev):RT:=(x.Repeat_Frequency,x.Repeat_Every,x.Repeat_Count,x.Repeat_Until,x.Repeat_HasUntil,x.Repeat_Weekdays,x.Repeat_Except,x.Repeat_Add)
def inZ (x:Ev) (z:Zo):Bool:=z.Name.toList==x.Zone.toList
theorem zt_at (zs:List Zo) (k:Nat):(qtz (((qal.encL zs).getD k []).getD 0 .ne),qgm (((qal.encL zs).getD k []).getD 1 .ne),qgm (((qal.encL zs).getD k []).getD 2 .ne),qgm (((qal.encL zs).getD k []).getD 3 .ne),qgm (((qal.encL zs).getD k []).getD 4 .ne),qgm (((qal.encL zs).getD k []).getD 5 .ne),qgm (((qal.encL zs).getD k []).getD 6 .ne),qgm (((qal.encL zs).getD k []).getD 7 .ne),qgm (((qal.encL zs).getD k []).getD 8 .ne),qgm (((qal.encL zs).getD k []).getD 9 .ne),qgm (((qal.encL zs).getD k []).getD 10 .ne))=zt (zs.getD k (qal.dec [])):=by
 simp only [q27,q28,q2a,q2b,q2c,q2d,q2e,q2f,q2g,q2h,q29]
 rfl
def lowA (f L:Int):Int:=if f - 60*L < -68719476736 then -68719476736 else f - 60*L
noncomputable def betV (zs:List Zo) (x:Ev) (f t:Int):List Int×(Int×Int):=(betS (zt (zs.getD (gidx (inZ x) 0 zs).toNat (qal.dec []))) (evS x) (evR x) (lowA f x.Length) t).getD ([],0,0)
noncomputable def evP (zs:List Zo) (x:Ev) (f t:Int):Int×List Int :=
 if gidx (inZ x) 0 zs<0 then (6,[]) else if x.Length<0∨1000000<x.Length then (3,[]) else
  ((betV zs x f t).2.1,if x.Method=4 then [] else (betV zs x f t).1)
def clipP (f t L:Int) (a:Int):Pd:=⟨if a<f then f else a,if t<a+60*L then t else a+60*L⟩
theorem q59 (zs:List Zo) (x:Ev) (f t:Int) (hw:x.Repeat_Weekdays.length≤9223372036854775807):betS (zt (zs.getD (gidx (inZ x) 0 zs).toNat (qal.dec []))) (evS x) (evR x) (lowA f x.Length) t=some (betV zs x f t)∧BetP (lowA f x.Length) t (betV zs x f t):=by
 obtain ⟨r,hr,hp⟩:=q58 (zt (zs.getD (gidx (inZ x) 0 zs).toNat (qal.dec []))) (evS x) (evR x) (lowA f x.Length) t hw
 have:betV zs x f t=r:=by unfold betV;rw [hr];rfl
 rw [this]
 exact ⟨hr,hp⟩
theorem qg2 (x:Ev) (zs:List Zo) (hz:zs.length≤60):∀ (g k:Nat),k+g=zs.length→Ok (qg6 zs x.Uid x.Method x.Sequence x.Summary x.Place x.Organizer x.Guests x.Zone x.Start_Year x.Start_Month x.Start_Day x.Start_Hour x.Start_Minute x.Start_Second x.Start_Zone x.Length x.Repeat_Frequency x.Repeat_Every x.Repeat_Count x.Repeat_Until x.Repeat_HasUntil x.Repeat_Weekdays x.Repeat_Except x.Repeat_Add zs.length k) fun r=>Sum.elim (fun r=>r.1) (fun _=>-1) r=gidx (inZ x) k (zs.drop k):=by
 intro g
 induction g with
 |zero =>
  intro k hk
  refine .via qg8 ?_
  unfold qgd
  rw [show decide ((k:Int)<(zs.length:Int))=false by simp;omega]
  refine qkl (EC.isL_encL _ _) (qkl (EC.isL_encL _ _) (qkl (EC.isL_encL _ _) (qkl (EC.isL_encL _ _) (qkl (EC.isL_encL _ _) (qkm ?_)))))
  rw [List.drop_eq_nil_of_le (by omega)]
  rfl
 |succ g ih =>
  intro k hk
  have hlt:k<zs.length:=by omega
  refine .via qg8 ?_
  unfold qgd
  rw [show decide ((k:Int)<(zs.length:Int))=true by simp;omega,qy6 (n:=60) (by omega) (by omega)]
  refine qkl (by simp) (qkl (by rw [qgw];simp only [Bool.and_eq_true,decide_eq_true_eq,EC.encL_length,Int.toNat_natCast];omega) ?_)
  refine qkl (EC.isL_encL _ _) (qkl (EC.isL_encL _ _) (qkl (EC.isL_encL _ _) (qkl (EC.isL_encL _ _) ?_)))
  simp only [EC.decL_encL]
  refine qki (x:=inZ x zs[k]) (evz_eq ?_) ?_
  ·simp only [evz_t,inZ,q27,Int.toNat_natCast,qfo hlt]
  ·rw [qa0 hlt,gidx]
   refine qkk (fun h=>qkm ?_) fun h=>?_
   ·simp [h]
   ·rw [h,if_neg (by simp)]
    exact qkl (EC.isL_encL _ _) (qkl (EC.isL_encL _ _) (qkl (EC.isL_encL _ _) (qkl (EC.isL_encL _ _) (qkl (EC.isL_encL _ _) (ih (k+1) (by omega))))))
theorem qge (x:Ev) (zs:List Zo) (hz:zs.length≤60):idxZ_s zs x.Uid x.Method x.Sequence x.Summary x.Place x.Organizer x.Guests x.Zone x.Start_Year x.Start_Month x.Start_Day x.Start_Hour x.Start_Minute x.Start_Second x.Start_Zone x.Length x.Repeat_Frequency x.Repeat_Every x.Repeat_Count x.Repeat_Until x.Repeat_HasUntil x.Repeat_Weekdays x.Repeat_Except x.Repeat_Add=some (gidx (inZ x) 0 zs):=by
 have h:Ok (idxZ_s zs x.Uid x.Method x.Sequence x.Summary x.Place x.Organizer x.Guests x.Zone x.Start_Year x.Start_Month x.Start_Day x.Start_Hour x.Start_Minute x.Start_Second x.Start_Zone x.Length x.Repeat_Frequency x.Repeat_Every x.Repeat_Count x.Repeat_Until x.Repeat_HasUntil x.Repeat_Weekdays x.Repeat_Except x.Repeat_Add) fun r=>r=gidx (inZ x) 0 zs:=.via qg5 (by
  unfold idxZ_t
  refine qkl (EC.isL_encL _ _) (qkl (EC.isL_encL _ _) (qkl (EC.isL_encL _ _) (qkl (EC.isL_encL _ _) (qkl (EC.isL_encL _ _) ?_))))
  simp only [EC.decL_encL,EC.encL_length]
  refine qkj (qg2 x zs hz zs.length 0 (by omega)) fun r h=>?_
  rw [List.drop_zero] at h
  cases r with
  |inl r=>exact qkm h
  |inr r=>exact qkm h)
 obtain ⟨r,e,rfl⟩:=h
 exact e
end
set_option maxRecDepth 100000
section
attribute [local irreducible] gdE
theorem qbk (f t L:Int) (b0:ByteArray) (b1 b2:Int) (b3 b4 b5:ByteArray) (b6) (b7:ByteArray) (b8 b9 b10 b11 b12 b13 b14 b16 b17 b18 b19:Int) (b20:Bool) (b21 b22 b23:List Int) (hL:0≤L∧L≤1000000) (l:List Int) (hl:l.length≤1801) (hb:∀ a∈l,-68719476736≤a∧a≤68719476736) :
  ∀ (g k:Nat) (acc:List Pd),k+g=l.length→acc.length≤k→Ok (qbl f t acc.length l l.length k b0 b1 b2 b3 b4 b5 b6 b7 b8 b9 b10 b11 b12 b13 b14 L b16 b17 b18 b19 b20 b21 b22 b23 acc) fun r=>r.1.2.2.2.1=(acc++(l.drop k).map (clipP f t L)).length∧r.2.2=acc++(l.drop k).map (clipP f t L):=by
 intro g
 induction g with
 |zero =>
  intro k acc hk ha
  refine .via qbn ?_
  unfold qbr
  rw [show decide ((k:Int)<(l.length:Int))=false by simp;omega]
  refine qkl (EC.isL_encL _ _) (qkl (EC.isL_encL _ _) (qkl (EC.isL_encL _ _) (qkl (EC.isL_encL _ _) (qkl (EC.isL_encL _ _) (qkl (EC.isL_encL _ _) (qkm ?_))))))
  rw [List.drop_eq_nil_of_le (by omega)]
  simp only [List.map_nil,List.append_nil,EC.decL_encL,and_self]
 |succ g ih =>
  intro k acc hk ha
  have hlt:k<l.length:=by omega
  refine .via qbn ?_
  unfold qbr
  have hB:=hb _ (List.getElem_mem hlt)
  have hw:IntKind.i64.wrap (l[k]+IntKind.i64.wrap (60*L))=l[k]+60*L:=by rw [qy5 (x:=60*L) (by omega) (by omega),qy5 (by omega) (by omega)]
  rw [show decide ((k:Int)<(l.length:Int))=true by simp;omega,qy6 (n:=1801) (by omega) (by omega)]
  refine qkl (by simp) (qkl (by rw [qgv];simp only [Bool.and_eq_true,decide_eq_true_eq,EC.encL_length,Int.toNat_natCast];omega) ?_)
  simp only [q2i,q20,Int.toNat_natCast,qfo hlt,hw,if_true,Bool.false_eq_true,if_false]
  refine qkl ?_ (qkl (EC.isL_encL _ _) (qkl (EC.isL_encL _ _) (qkl (EC.isL_encL _ _) (qkl (EC.isL_encL _ _) (qkl (EC.isL_encL _ _) (qkl (EC.isL_encL _ _) ?_))))))
  ·rw [q1o]
   simp only [List.all_cons,List.all_nil,List.length_cons,List.length_nil,Bool.and_true,beq_self_eq_true,Bool.true_and,Bool.and_eq_true,decide_eq_true_eq]
   omega
  simp only [EC.decL_encL]
  have:=ih (k+1) (acc++[clipP f t L l[k]]) (by omega) (by simp;omega)
  rw [qa0 hlt,List.map_cons]
  rw [List.append_assoc,List.singleton_append,List.length_append] at this
  exact this
theorem evt_sp (x:Ev) (zs:List Zo) (f t:Int) (hz:zs.length≤60) (hw:x.Repeat_Weekdays.length≤9223372036854775807) (hf:-68719476736≤f) (hft:f≤t) (ht:t≤68719476736) :
  evt_s x.Uid x.Method x.Sequence x.Summary x.Place x.Organizer x.Guests x.Zone x.Start_Year x.Start_Month x.Start_Day x.Start_Hour x.Start_Minute x.Start_Second x.Start_Zone x.Length x.Repeat_Frequency x.Repeat_Every x.Repeat_Count x.Repeat_Until x.Repeat_HasUntil x.Repeat_Weekdays x.Repeat_Except x.Repeat_Add zs f t
   = some ((((evP zs x f t).2.map (clipP f t x.Length)).length,(evP zs x f t).1),(evP zs x f t).2.map (clipP f t x.Length)):=by
 have h:Ok (evt_s x.Uid x.Method x.Sequence x.Summary x.Place x.Organizer x.Guests x.Zone x.Start_Year x.Start_Month x.Start_Day x.Start_Hour x.Start_Minute x.Start_Second x.Start_Zone x.Length x.Repeat_Frequency x.Repeat_Every x.Repeat_Count x.Repeat_Until x.Repeat_HasUntil x.Repeat_Weekdays x.Repeat_Except x.Repeat_Add zs f t) fun r=>r=((((evP zs x f t).2.map (clipP f t x.Length)).length,(evP zs x f t).1),(evP zs x f t).2.map (clipP f t x.Length)):=.via evt_eq (by
  unfold evt_t
  refine qkl (EC.isL_encL _ _) (qkl (EC.isL_encL _ _) (qkl (EC.isL_encL _ _) (qkl (EC.isL_encL _ _) (qkl (EC.isL_encL _ _) ?_))))
  simp only [EC.decL_encL,EC.encL_length]
  refine qki (qge x zs hz) ?_
  refine qkk (fun h0=>qkm ?_) fun h0=>?_
  ·simp at h0
   unfold evP
   rw [if_pos h0]
   rfl
  simp at h0
  refine qkk (fun h1=>?_) fun h1=>qkm ?_
  ·refine qkk (fun h2=>qkm ?_) fun h2=>?_
   ·simp at h2
    unfold evP
    rw [if_neg (by omega),if_pos (Or.inr h2)]
    rfl
   simp at h1 h2
   have hlt:(gidx (inZ x) 0 zs).toNat<zs.length:=by
    rcases qfq (inZ x) zs 0 with ⟨e,_⟩|⟨i,hi,e,_⟩
    ·omega
    ·rw [e];simpa using hi
   refine qkl (by simpa using h0) (qkl (by rw [qgw];simp only [Bool.and_eq_true,decide_eq_true_eq];exact ⟨hlt,hlt⟩) (qkl (EC.isL_encL _ _) (qkl (EC.isL_encL _ _) (qkl (EC.isL_encL _ _) ?_))))
   rw [zt_at]
   have hw1:IntKind.i64.wrap (f - IntKind.i64.wrap (60*x.Length))=f - 60*x.Length:=by
    rw [qy5 (x:=60*x.Length) (by omega) (by omega),qy5 (by omega) (by omega)]
   simp only [hw1,if_true]
   obtain ⟨hB,hP⟩:=q59 zs x f t hw
   refine qki hB ?_
   have hev:evP zs x f t=((betV zs x f t).2.1,if x.Method=4 then [] else (betV zs x f t).1):=by
    unfold evP
    rw [if_neg (by omega),if_neg (by omega)]
   refine qki (qbz _ _) ?_
   rw [hev]
   refine qkk (fun h3=>qkk (fun h4=>qkm ?_) fun h4=>?_) fun h3=>qkm ?_
   ·rw [if_pos (by simpa using h4)]
    rfl
   ·have h4':x.Method≠4:=by simpa using h4
    have h3':(betV zs x f t).2.1=0:=by simpa using h3
    rw [if_neg h4']
    refine qkl (EC.isL_encL _ _) (qkl (EC.isL_encL _ _) (qkl (EC.isL_encL _ _) (qkl (EC.isL_encL _ _) (qkl (EC.isL_encL _ _) ?_))))
    have hb:∀ a∈(betV zs x f t).1,-68719476736≤a∧a≤68719476736:=fun a ha=>by
     have h1:=hP.2.1 a ha
     have h2:=hP.2.2.2 h3'
     omega
    refine qkj (qbk f t x.Length _ _ _ _ _ _ _ _ _ _ _ _ _ _ _ _ _ _ _ _ _ _ _ ⟨by omega,by omega⟩ (betV zs x f t).1 hP.2.2.1 hb (betV zs x f t).1.length 0 [] (by omega) (by simp)) fun r hr=>?_
    rw [List.drop_zero,List.nil_append] at hr
    refine qkl (EC.isL_encL _ _) (qkm ?_)
    rw [hr.1,hr.2,h3']
   ·have h3':(betV zs x f t).2.1≠0:=by simpa using h3
    rw [hP.1 h3',ite_self]
    rfl
  ·simp at h1
   unfold evP
   rw [if_neg (by omega),if_pos (Or.inl h1)]
   rfl)
 obtain ⟨r,e,rfl⟩:=h
 exact e
end
set_option maxRecDepth 100000
section
attribute [local irreducible] gdE
noncomputable def zvP (z:Zo):Int×Int:=(pZval (zt z)).getD (0,0)
theorem zvP_ok (z:Zo):pZval (zt z)=some (zvP z):=by
 obtain ⟨r,hr,_⟩:=q108 z.Name z.Standard z.Summer z.Begin_Month z.Begin_Week z.Begin_Weekday z.Begin_Minute z.End_Month z.End_Week z.End_Weekday z.End_Minute
 have hr':pZval (zt z)=some r:=hr
 unfold zvP
 rw [hr']
 rfl
noncomputable def zF (k:Nat):List Zo→Int×Int
 |[]=>(0,0)
 |z::l=>if (zvP z).1=0 then zF (k+1) l else ((zvP z).1,-10 - (k:Int))
noncomputable def evC (zs:List Zo) (f t:Int) (k:Nat):List Ev→Int×Int
 |[]=>(0,0)
 |x::l=>if (evP zs x f t).1=0 then evC zs f t (k+1) l else ((evP zs x f t).1,(k:Int))
noncomputable def evL (zs:List Zo) (f t:Int):List Ev→List Pd
 |[]=>[]
 |x::l=>(evP zs x f t).2.map (clipP f t x.Length)++evL zs f t l
theorem qbj (zs:List Zo) (x:Ev) (f t:Int) (hw:x.Repeat_Weekdays.length≤9223372036854775807):(evP zs x f t).2.length≤1801:=by
 have hP:=(q59 zs x f t hw).2.2.2.1
 unfold evP
 split
 ·exact Nat.zero_le _
 split
 ·exact Nat.zero_le _
 dsimp only
 split
 ·exact Nat.zero_le _
 ·exact hP
theorem qbi (zs:List Zo) (f t:Int):∀ l:List Ev,(∀ x∈l,x.Repeat_Weekdays.length≤9223372036854775807)→(evL zs f t l).length≤1801*l.length
 |[],_=>Nat.le_refl 0
 |x::l,h=>by
  have h1:=qbj zs x f t (h x (by simp))
  have h2:=qbi zs f t l fun y hy=>h y (by simp [hy])
  simp only [evL,List.length_append,List.length_map,List.length_cons]
  omega
theorem of7_ok (evs:List Ev) (f t b0 b1:Int) (zs:List Zo) (hz:zs.length≤60):∀ (g k:Nat),k+g=zs.length→Ok (qcd evs zs f t zs zs.length k b0 b1) fun r =>
  if (zF k (zs.drop k)).1=0 then r=.inr ((evs,(zs,(f,(t,((),(zs,((zs.length:Int),((zs.length:Int),false)))))))),(b0,b1)) else r=.inl ((0,()),([],zF k (zs.drop k))):=by
 intro g
 induction g with
 |zero =>
  intro k hk
  refine .via qcf ?_
  unfold qck
  rw [show decide ((k:Int)<(zs.length:Int))=false by simp;omega]
  refine qkl (EC.isL_encL _ _) (qkl (EC.isL_encL _ _) (qkl (EC.isL_encL _ _) (qkm ?_)))
  rw [List.drop_eq_nil_of_le (by omega),zF,if_pos rfl]
  simp only [EC.decL_encL]
  rw [show k=zs.length by omega]
 |succ g ih =>
  intro k hk
  have hlt:k<zs.length:=by omega
  refine .via qcf ?_
  unfold qck
  rw [show decide ((k:Int)<(zs.length:Int))=true by simp;omega,qy6 (n:=60) (by omega) (by omega)]
  refine qkl (by simp) (qkl (by rw [qgw];simp only [Bool.and_eq_true,decide_eq_true_eq,EC.encL_length,Int.toNat_natCast];omega) ?_)
  rw [zt_at,Int.toNat_natCast,qfo hlt,qa0 hlt,zF]
  refine qki (zvP_ok zs[k]) (qki (qbz _ _) (qkk (fun h=>?_) fun h=>?_))
  ·have h':(zvP zs[k]).1≠0:=by simpa using h
   rw [if_neg h']
   refine qki (qc1 _ _) (qkm ?_)
   rw [if_neg h',qy5 (by omega) (by omega)]
   rfl
  ·have h':(zvP zs[k]).1=0:=by simpa using h
   rw [if_pos h']
   refine qkl (EC.isL_encL _ _) (qkl (EC.isL_encL _ _) (qkl (EC.isL_encL _ _) ?_))
   simp only [EC.decL_encL]
   exact ih (k+1) (by omega)
theorem qkh (zs:List Zo) (f t b0 b1:Int) (evs:List Ev) (hz:zs.length≤60) (hn:evs.length≤20) (hw:∀ x∈evs,x.Repeat_Weekdays.length≤9223372036854775807) (hf:-68719476736≤f) (hft:f≤t) (ht:t≤68719476736) :
  ∀ (g k:Nat) (acc:List Pd),k+g=evs.length→acc.length≤1801*k→Ok (qc5 zs f t acc.length evs evs.length k b0 b1 acc) fun r =>
  if (evC zs f t k (evs.drop k)).1=0 then ∃ u,r=.inr (u,((b0,b1),acc++evL zs f t (evs.drop k))) else r=.inl ((0,()),([],evC zs f t k (evs.drop k))):=by
 intro g
 induction g with
 |zero =>
  intro k acc hk ha
  refine .via qc7 ?_
  unfold qcc
  rw [show decide ((k:Int)<(evs.length:Int))=false by simp;omega]
  refine qkl (EC.isL_encL _ _) (qkl (EC.isL_encL _ _) (qkl (EC.isL_encL _ _) (qkm ?_)))
  rw [List.drop_eq_nil_of_le (by omega),evC,if_pos rfl]
  simp only [EC.decL_encL,evL,List.append_nil]
  exact ⟨_,rfl⟩
 |succ g ih =>
  intro k acc hk ha
  have hlt:k<evs.length:=by omega
  have hx:=hw _ (List.getElem_mem hlt)
  refine .via qc7 ?_
  unfold qcc
  rw [show decide ((k:Int)<(evs.length:Int))=true by simp;omega,qy6 (n:=20) (by omega) (by omega)]
  refine qkl (by simp) (qkl (by rw [qgx];simp only [Bool.and_eq_true,decide_eq_true_eq,EC.encL_length,Int.toNat_natCast];omega) ?_)
  simp only [EC.decL_encL,EC.isL_encL,EC.encL_length,q1o,q2j,q2k,q2v,q30,q31,q32,q33,q34,q35,q36,q2l,q2m,q2n,q2o,q2p,q2q,q2r,q2s,q2t,q2u,q2w,q2x,q2y,q2z,Int.toNat_natCast,qfo hlt,EC.decL_encL]
  refine qkl (by first|rfl|exact EC.isL_encL _ _) (qkl (by first|rfl|exact EC.isL_encL _ _) (qkl (by first|rfl|exact EC.isL_encL _ _) (qkl (by first|rfl|exact EC.isL_encL _ _) (qkl (by first|rfl|exact EC.isL_encL _ _) ?_))))
  refine qki (evt_sp evs[k] zs f t hz hx hf hft ht) ?_
  rw [qa0 hlt,evC]
  refine qkk (fun h=>?_) fun h=>?_
  ·have h':(evP zs evs[k] f t).1≠0:=by simpa using h
   rw [if_neg h']
   refine qki (qc1 _ _) (qkm ?_)
   rw [if_neg h']
   rfl
  ·have h':(evP zs evs[k] f t).1=0:=by simpa using h
   have hlen:=qbj zs evs[k] f t hx
   rw [if_pos h',qa]
   refine qkl ?_ (qkl (by first|rfl|exact EC.isL_encL _ _) (qkl (by first|rfl|exact EC.isL_encL _ _) (qkl (by first|rfl|exact EC.isL_encL _ _) ?_)))
   ·simp only []
    simp only [Bool.and_self,Bool.true_and,Bool.and_eq_true,decide_eq_true_eq,List.length_map]
    omega
   simp only [EC.decL_encL,evL]
   have:=ih (k+1) (acc++(evP zs evs[k] f t).2.map (clipP f t evs[k].Length)) (by omega) (by simp only [List.length_append,List.length_map];omega)
   rw [List.append_assoc,List.length_append] at this
   exact this
noncomputable def fbR (evs:List Ev) (zs:List Zo) (f t:Int):(Int×Int)×List Pd :=
 if 20<evs.length∨60<zs.length then ((2,-1),[]) else if (spanFault f t).1≠0 then (spanFault f t,[]) else if (zF 0 zs).1≠0 then (zF 0 zs,[]) else
  if (evC zs f t 0 evs).1≠0 then (evC zs f t 0 evs,[]) else ((0,0),unionU (evL zs f t evs))
theorem qcl (evs:List Ev) (zs:List Zo) (f t:Int) (hw:∀ x∈evs,x.Repeat_Weekdays.length≤9223372036854775807):fbOf_s evs zs f t=some (((fbR evs zs f t).2.length,(fbR evs zs f t).1),(fbR evs zs f t).2):=by
 have h:Ok (fbOf_s evs zs f t) fun r=>r=(((fbR evs zs f t).2.length,(fbR evs zs f t).1),(fbR evs zs f t).2):=.via qc4 (by
  unfold fbOf_t
  simp only [EC.encL_length,EC.decL_encL]
  refine qkk (fun h1=>?_) fun h1=>qki (qc1 _ _) (qkm ?_)
  ·refine qkk (fun h2=>qki (qc1 _ _) (qkm ?_)) fun h2=>?_
   ·simp at h2
    unfold fbR
    rw [if_pos (Or.inr (by omega))]
    rfl
   simp at h1 h2
   have h12:¬ (20<evs.length∨60<zs.length):=by omega
   refine qki (span_s f t) (qki (qbz _ _) (qkk (fun h3=>qkm ?_) fun h3=>?_))
   ·have h3':(spanFault f t).1≠0:=by simpa using h3
    unfold fbR
    rw [if_neg h12,if_pos h3']
    rfl
   have h3':(spanFault f t).1=0:=by simpa using h3
   obtain ⟨hf,hft,ht,_⟩:=qt6 h3'
   refine qkl (EC.isL_encL _ _) (qkl (EC.isL_encL _ _) (qkl (EC.isL_encL _ _) ?_))
   refine qkj (of7_ok evs f t 0 0 zs (by omega) zs.length 0 (by omega)) fun r hr=>?_
   rw [List.drop_zero] at hr
   by_cases hz:(zF 0 zs).1=0
   ·rw [if_pos hz] at hr
    subst hr
    refine qkl (EC.isL_encL _ _) (qkl (EC.isL_encL _ _) ?_)
    refine qkj (qkh zs f t 0 0 evs (by omega) (by omega) hw hf hft ht evs.length 0 [] (by omega) (by simp)) fun r hr=>?_
    rw [List.drop_zero,List.nil_append] at hr
    by_cases he:(evC zs f t 0 evs).1=0
    ·rw [if_pos he] at hr
     obtain ⟨u,rfl⟩:=hr
     refine qkl (EC.isL_encL _ _) ?_
     have hlen:=qbi zs f t evs hw
     have hU:unionS (evL zs f t evs)=some ((unionU (evL zs f t evs)).length,unionU (evL zs f t evs)):=by
      unfold unionS
      rw [if_pos (by omega)]
     refine qki hU (qki none_s (qkl (EC.isL_encL _ _) (qkm ?_)))
     unfold fbR
     rw [if_neg h12,if_neg (by simpa using h3'),if_neg (by simpa using hz),if_neg (by simpa using he)]
    ·rw [if_neg he] at hr
     subst hr
     refine qkl (EC.isL_encL _ _) (qkm ?_)
     unfold fbR
     rw [if_neg h12,if_neg (by simpa using h3'),if_neg (by simpa using hz),if_pos he]
     rfl
   ·rw [if_neg hz] at hr
    subst hr
    refine qkl (EC.isL_encL _ _) (qkm ?_)
    unfold fbR
    rw [if_neg h12,if_neg (by simpa using h3'),if_pos hz]
    rfl
  ·simp at h1
   unfold fbR
   rw [if_pos (Or.inl (by omega))]
   rfl)
 obtain ⟨r,e,rfl⟩:=h
 exact e
end
set_option maxRecDepth 100000
section
attribute [local irreducible] gdE
noncomputable def evA (zs:List Zo) (f t:Int):List Ev→List Pd
 |[]=>[]
 |x::l=>(evP zs x f t).2.map (fun a=>(⟨a,a+60*x.Length⟩:Pd))++evA zs f t l
theorem qbe (zs:List Zo) (f t:Int):∀ l:List Ev,(∀ x∈l,x.Repeat_Weekdays.length≤9223372036854775807)→(evA zs f t l).length≤1801*l.length
 |[],_=>Nat.le_refl 0
 |x::l,h=>by
  have h1:=qbj zs x f t (h x (by simp))
  have h2:=qbe zs f t l fun y hy=>h y (by simp [hy])
  simp only [evA,List.length_append,List.length_map,List.length_cons]
  omega
theorem qhk (evs:List Ev) (zs:List Zo) (f t:Int) (n:Nat) (i:Int) (b0:List Pd) (b1 b2 e1 e2:Int) (he:e1≠0):Ok (qii evs zs f t n i b0 b1 b2 e1 e2) fun r=>∃ i,r=((evs,(zs,(f,(t,(n,((),((),(i,false)))))))),(b0,((b1,b2),(e1,e2)))):=.via qik (by
 unfold qio
 have h0:(e1==0)=false:=by simpa using he
 rw [h0]
 refine qkk (fun _=>qkl (EC.isL_encL _ _) (qkl (EC.isL_encL _ _) (qkl (EC.isL_encL _ _) (qkm ?_)))) fun _=>qkl (EC.isL_encL _ _) (qkl (EC.isL_encL _ _) (qkl (EC.isL_encL _ _) (qkm ?_)))
 all_goals
  simp only [EC.decL_encL]
  exact ⟨_,rfl⟩)
theorem l8_ok (evs:List Ev) (zs:List Zo) (f t:Int) (n:Nat) (b0:List Pd) (b1 b2:Int) (hz:zs.length≤60):∀ (g k:Nat),k+g=zs.length→Ok (qii evs zs f t n k b0 b1 b2 0 0) fun r=>∃ i,r=((evs,(zs,(f,(t,(n,((),((),(i,false)))))))),(b0,((b1,b2),zF k (zs.drop k)))):=by
 intro g
 induction g with
 |zero =>
  intro k hk
  refine .via qik ?_
  unfold qio
  rw [show decide ((k:Int)<((qal.encL zs).length:Int))=false by simp [EC.encL_length];omega]
  refine qkl (EC.isL_encL _ _) (qkl (EC.isL_encL _ _) (qkl (EC.isL_encL _ _) (qkm ?_)))
  rw [List.drop_eq_nil_of_le (by omega),zF]
  simp only [EC.decL_encL]
  exact ⟨_,rfl⟩
 |succ g ih =>
  intro k hk
  have hlt:k<zs.length:=by omega
  refine .via qik ?_
  unfold qio
  rw [show decide ((k:Int)<((qal.encL zs).length:Int))=true by simp [EC.encL_length];omega,qy6 (n:=60) (by omega) (by omega)]
  refine qkl (by simp) (qkl (by rw [qgw];simp only [Bool.and_eq_true,decide_eq_true_eq,EC.encL_length,Int.toNat_natCast];omega) ?_)
  rw [zt_at,Int.toNat_natCast,qfo hlt,qa0 hlt,zF]
  refine qki (zvP_ok zs[k]) (qkk (fun h=>?_) fun h=>?_)
  ·have h':(zvP zs[k]).1≠0:=by simpa using h
   rw [if_neg h']
   refine qki (at_s _ _) (qkl (EC.isL_encL _ _) (qkl (EC.isL_encL _ _) (qkl (EC.isL_encL _ _) ?_)))
   simp only [EC.decL_encL]
   rw [qy5 (x:=-10 - (k:Int)) (by omega) (by omega)]
   exact qhk _ _ _ _ _ _ _ _ _ _ _ h'
  ·have h':(zvP zs[k]).1=0:=by simpa using h
   rw [if_pos h']
   refine qkl (EC.isL_encL _ _) (qkl (EC.isL_encL _ _) (qkl (EC.isL_encL _ _) ?_))
   simp only [EC.decL_encL]
   exact ih (k+1) (by omega)
theorem l19_ok (evs:List Ev) (zs:List Zo) (f t:Int) (n all k:Nat) (b0 b3:List Pd) (b1 b2 e1 e2:Int) (hz:zs.length≤60) (hk:k<evs.length):∀ (m:Nat) (z:Int),m≤zs.length→z=gidx (inZ evs[k]) m (zs.drop m)→Ok (qi4 evs zs f t n all k z ((m:Int) - 1) b0 b1 b2 e1 e2 b3) fun r=>r=((evs,(zs,(f,(t,(n,((),((),(all,((k:Int),(gidx (inZ evs[k]) 0 zs,((-1:Int),false))))))))))),(b0,((b1,b2),((e1,e2),b3)))):=by
 intro m
 induction m with
 |zero =>
  intro z hm hz2
  refine .via qi6 ?_
  unfold qia
  refine qkl (EC.isL_encL _ _) (qkl (EC.isL_encL _ _) (qkl (EC.isL_encL _ _) (qkl (EC.isL_encL _ _) (qkm ?_))))
  simp only [EC.decL_encL,hz2,List.drop_zero]
  rfl
 |succ m ih =>
  intro z hm hz2
  have hlt:m<zs.length:=by omega
  refine .via qi6 ?_
  unfold qia
  have hi:((m+1:Nat):Int) - 1=(m:Int):=by omega
  rw [hi,show decide ((m:Int)≥0)=true by simp,qy5 (x:=(m:Int) - 1) (by omega) (by omega)]
  refine qkl (by simp) (qkl (by rw [qgw];simp only [Bool.and_eq_true,decide_eq_true_eq,EC.encL_length,Int.toNat_natCast];omega) ?_)
  refine qkl (by simp) (qkl (by rw [qgx];simp only [Bool.and_eq_true,decide_eq_true_eq,EC.encL_length,Int.toNat_natCast];omega) ?_)
  simp only [q27,q34,Int.toNat_natCast,qfo hlt,qfo hk]
  refine qkk (fun h=>?_) fun h=>?_
  ·refine qkl (EC.isL_encL _ _) (qkl (EC.isL_encL _ _) (qkl (EC.isL_encL _ _) (qkl (EC.isL_encL _ _) ?_)))
   simp only [EC.decL_encL]
   refine ih m (by omega) ?_
   rw [qa0 hlt,gidx,if_pos (show inZ evs[k] zs[m]=true from h)]
  ·refine qkl (EC.isL_encL _ _) (qkl (EC.isL_encL _ _) (qkl (EC.isL_encL _ _) (qkl (EC.isL_encL _ _) ?_)))
   simp only [EC.decL_encL]
   refine ih z (by omega) ?_
   rw [qa0 hlt,gidx,if_neg (by rw [show inZ evs[k] zs[m]=false from h];simp),hz2]
theorem l32_ok (evs:List Ev) (zs:List Zo) (f t:Int) (n k:Nat) (L:Int) (l:List Int) (b0:List Pd) (b1 b2 e1 e2:Int) (hk:k<evs.length) (hl:l.length≤1801) (hL:0≤L∧L≤60000000) (hb:∀ a∈l,-68719476736≤a∧a≤68719476736) :
  ∀ (g j:Nat) (acc:List Pd),j+g=l.length→acc.length≤1801*20+j→Ok (qib evs zs f t n acc.length k L l j b0 b1 b2 e1 e2 acc) fun r=>∃ j2:Int,r=((evs,(zs,(f,(t,(n,((),((),((acc++if evs[k].Method=4 then [] else (l.drop j).map fun a=>(⟨a,a+L⟩:Pd)).length,((k:Int),(L,(l,(j2,false)))))))))))),(b0,((b1,b2),((e1,e2),acc++if evs[k].Method=4 then [] else (l.drop j).map fun a=>(⟨a,a+L⟩:Pd))))):=by
 intro g
 induction g with
 |zero =>
  intro j acc hj ha
  refine .via qid ?_
  unfold qih
  rw [show decide ((j:Int)<((qak.encL l).length:Int))=false by simp [EC.encL_length];omega]
  refine qkl (EC.isL_encL _ _) (qkl (EC.isL_encL _ _) (qkl (EC.isL_encL _ _) (qkl (EC.isL_encL _ _) (qkl (EC.isL_encL _ _) (qkm ?_)))))
  rw [List.drop_eq_nil_of_le (by omega)]
  simp only [EC.decL_encL,List.map_nil,ite_self,List.append_nil]
  exact ⟨_,rfl⟩
 |succ g ih =>
  intro j acc hj ha
  have hlt:j<l.length:=by omega
  refine .via qid ?_
  unfold qih
  have hB:=hb _ (List.getElem_mem hlt)
  have hw:IntKind.i64.wrap (l[j]+L)=l[j]+L:=qy5 (by omega) (by omega)
  rw [show decide ((j:Int)<((qak.encL l).length:Int))=true by simp [EC.encL_length];omega,qy6 (n:=1801) (by omega) (by omega)]
  refine qkl (by simp) (qkl (by rw [qgx];simp only [Bool.and_eq_true,decide_eq_true_eq,EC.encL_length,Int.toNat_natCast];omega) ?_)
  simp only [q2k,q2i,q20,Int.toNat_natCast,qfo hlt,qfo hk,hw]
  refine qkk (fun h=>?_) fun h=>?_
  ·have h':evs[k].Method≠4:=by simpa using h
   have hE:(decide (j<(qak.encL l).length)&&isE [.int .i64] 0 ((qak.encL l).getD j []))=true:=by rw [qgv];simp only [Bool.and_eq_true,decide_eq_true_eq,EC.encL_length];omega
   refine qkl (by simp) (qkl hE (qkl (by simp) (qkl hE (qkl ?_ ?_))))
   ·rw [q1o]
    simp only [List.all_cons,List.all_nil,List.length_cons,List.length_nil,Bool.and_true,beq_self_eq_true,Bool.true_and,Bool.and_eq_true,decide_eq_true_eq]
    omega
   refine qkl (by first|rfl|exact EC.isL_encL _ _) (qkl (by first|rfl|exact EC.isL_encL _ _) (qkl (by first|rfl|exact EC.isL_encL _ _) (qkl (by first|rfl|exact EC.isL_encL _ _) (qkl (by first|rfl|exact EC.isL_encL _ _) ?_))))
   simp only [EC.decL_encL]
   have:=ih (j+1) (acc++[⟨l[j],l[j]+L⟩]) (by omega) (by simp;omega)
   rw [qa0 hlt,List.map_cons]
   rw [if_neg h'] at this ⊢
   rw [List.append_assoc,List.singleton_append,List.length_append] at this
   exact this
  ·have h':evs[k].Method=4:=by simpa using h
   rw [if_pos h',List.append_nil]
   refine qkl (by first|rfl|exact EC.isL_encL _ _) (qkl (by first|rfl|exact EC.isL_encL _ _) (qkl (by first|rfl|exact EC.isL_encL _ _) (qkl (by first|rfl|exact EC.isL_encL _ _) (qkl (by first|rfl|exact EC.isL_encL _ _) (qkm ?_)))))
   simp only [EC.decL_encL]
   exact ⟨_,rfl⟩
end
end Go.Proofs.YtjlkjiifkganoaaGreat
