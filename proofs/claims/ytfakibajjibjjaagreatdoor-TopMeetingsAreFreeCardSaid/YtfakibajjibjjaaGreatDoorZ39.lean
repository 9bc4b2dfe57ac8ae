/- All guests must accept: the law in plain words. -/
import Derived.Test.YtfakibajjibjjaaGreatDoorMT2
import Derived.Test.YtfakibajjibjjaaGreatDoorZ36
import Derived.Test.YtfakibajjibjjaaGreatDoorH1
import Derived.Test.YtfakibajjibjjaaGreatDoorZ21
namespace Go.Proofs.YtfakibajjibjjaaGreatDoor
set_option linter.unusedSimpArgs false
open Go.RowKit
theorem qj1 {p:Gu→Bool}:∀ {l:List Gu} {k:Nat},(∀ g∈l,p g=false)→gidx p k l=-1
 |[],_,_=>rfl
 |g::l,k,h=>by rw [gidx,if_neg (by simp [h g]),qj1 (fun x hx=>h x (by simp [hx]))]
theorem qj2 {p:Gu→Bool}:∀ {l:List Gu} {k:Nat} {g:Gu},g∈l→p g=true→0≤gidx p k l
 |[],_,_,h,_=>by simp at h
 |x::l,k,g,h,hp=>by
  rw [gidx]
  split
  ·omega
  ·rename_i hx
   rcases List.mem_cons.1 h with e|h
   ·subst e;exact absurd hp hx
   ·exact qj2 h hp
theorem qj0 {p:Gu→Bool}:∀ {l:List Gu} {k j:Nat} (h:j<l.length),p l[j]=true→(∀ i (hi:i<l.length),i<j→p l[i]=false)→gidx p k l=((k+j:Nat):Int)
 |[],_,_,h,_,_=>by simp at h
 |g::l,k,j,h,hp,hb=>by
  rw [gidx]
  cases j with
  |zero=>rw [if_pos (show p g=true from hp)];simp
  |succ j =>
   have h0:p g=false:=hb 0 (by simp) (by omega)
   rw [if_neg (by simp [h0]),qj0 (k:=k+1) (j:=j) (Nat.lt_of_succ_lt_succ h) (show p (l[j]'(Nat.lt_of_succ_lt_succ h))=true from hp) (fun i hi hij=>hb (i+1) (Nat.succ_lt_succ hi) (by omega))]
   congr 1;omega
theorem qiz {a:List UInt8}:∀ {l l':List Gu} {k:Nat},l.map (fun g=>g.Address)=l'.map (fun g=>g.Address)→gidx (fun g=>g.Address.toList==a) k l=gidx (fun g=>g.Address.toList==a) k l'
 |[],[],_,_=>rfl
 |[],_::_,_,h=>by simp at h
 |_::_,[],_,h=>by simp at h
 |g::l,g'::l',k,h=>by
  simp only [List.map_cons,List.cons.injEq] at h
  rw [gidx,gidx,h.1,qiz h.2]
theorem gf_ok {org:ByteArray} {round:Int} {all:List Gu}:∀ {l:List Gu} {k:Nat},(∀ i (h:i<l.length),guestBad org round (all.take (k+i)) l[i]=0)→gfFrom org round all k l=(0,0)
 |[],_,_=>rfl
 |g::l,k,h=>by
  rw [gfFrom,if_pos (show guestBad org round (all.take k) g=0 from h 0 (Nat.zero_lt_succ _))]
  exact gf_ok fun i hi=>by
   have:=h (i+1) (Nat.succ_lt_succ hi)
   rw [show k+(i+1)=k+1+i by omega] at this
   exact this
theorem qiy {org:ByteArray} {round:Int} {all:List Gu}:∀ {l:List Gu} {k:Nat},(gfFrom org round all k l).1=0→∀ i (h:i<l.length),guestBad org round (all.take (k+i)) l[i]=0
 |[],_,_,i,hi=>by simp at hi
 |g::l,k,h,i,hi=>by
  rw [gfFrom] at h
  split at h
  ·rename_i h0
   cases i with
   |zero=>exact h0
   |succ i =>
    have:=qiy h i (Nat.lt_of_succ_lt_succ hi)
    rw [show k+(i+1)=k+1+i by omega]
    exact this
  ·rename_i h0;exact absurd h h0
theorem qf7 {m:Mtg} (h:(mtgFault m).1=0):namedB m.org=true∧∀ i (hi:i<m.guests.length),guestBad m.org m.round (m.guests.take i) m.guests[i]=0:=by
 unfold mtgFault at h
 split at h
 ·cases h
 ·rename_i hnm
  split at h
  ·cases h
  ·split at h
   ·cases h
   ·split at h
    ·cases h
    ·refine ⟨by simpa using hnm,fun i hi=>?_⟩
     have:=qiy h i hi
     simpa using this
def AL (S:Nat→Bool):Nat→List Gu→List Gu
 |_,[]=>[]
 |k,g::l=>⟨g.Address,if S k then 1 else 0,0,0⟩::AL S (k+1) l
theorem AL_len (S:Nat→Bool):∀ (l:List Gu) (k:Nat),(AL S k l).length=l.length
 |[],_=>rfl
 |g::l,k=>by simp [AL,AL_len S l]
theorem q8 (S:Nat→Bool):∀ (l:List Gu) (k:Nat),(AL S k l).map (fun g=>g.Address)=l.map (fun g=>g.Address)
 |[],_=>rfl
 |g::l,k=>by simp [AL,q8 S l]
theorem AL_get (S:Nat→Bool):∀ (l:List Gu) (k i:Nat),(AL S k l)[i]?=(l[i]?).map fun g=>⟨g.Address,if S (k+i) then 1 else 0,0,0⟩
 |[],_,_=>by simp [AL]
 |g::l,k,i=>by
  cases i with
  |zero=>simp [AL]
  |succ i=>simp only [AL,List.getElem?_cons_succ,AL_get S l (k+1) i];rw [show k+1+i=k+(i+1) by omega]
theorem AL_at (S:Nat→Bool) (l:List Gu) (i:Nat) (h:i<l.length) (h':i<(AL S 0 l).length):(AL S 0 l)[i]=⟨l[i].Address,if S i then 1 else 0,0,0⟩:=by
 have:=AL_get S l 0 i
 rw [List.getElem?_eq_getElem h',List.getElem?_eq_getElem h] at this
 simpa using this
theorem AL_clr (l:List Gu):l.map clr=AL (fun _=>false) 0 l:=by
 have:∀ (l:List Gu) (k:Nat),l.map clr=AL (fun _=>false) k l:=by
  intro l
  induction l with
  |nil=>intro k;rfl
  |cons g l ih=>intro k;simp only [List.map_cons,AL,←ih (k+1)];rfl
 exact this l 0
theorem AL_set (S:Nat→Bool) (l:List Gu) (j:Nat) (h:j<l.length):(AL S 0 l).set j ⟨l[j].Address,1,0,0⟩=AL (fun i=>S i||i==j) 0 l:=by
 apply List.ext_getElem?
 intro i
 rw [AL_get,List.getElem?_set,AL_get]
 simp only [AL_len,Nat.zero_add]
 by_cases e:j=i
 ·subst e
  simp [h]
 ·have e':(i==j)=false:=by simpa using fun h=>e h.symm
  simp [e,e']
theorem q9 (S:Nat→Bool) (m:Mtg) (f t:Int) (hf:(mtgFault m).1=0) (hr:m.round≠1000000) (hp:possB f t=true):(mtgFault ⟨m.org,AL S 0 m.guests,m.round+1,f,t,false⟩)=(0,0):=by
 obtain ⟨h1,h2,h3,h4⟩:=mtg_ok hf
 obtain ⟨hn,he⟩:=qf7 hf
 unfold mtgFault
 simp only [AL_len]
 rw [if_neg (by simp [hn]),if_neg (by omega),if_neg (by omega),if_neg (by simp [hp];omega)]
 refine gf_ok fun i hi=>?_
 rw [AL_len] at hi
 have h0:=he i hi
 rw [AL_at S m.guests i hi,Nat.zero_add]
 have hg:gidx (fun x=>x.Address.toList==m.guests[i].Address.toList) 0 ((AL S 0 m.guests).take i)=gidx (fun x=>x.Address.toList==m.guests[i].Address.toList) 0 (m.guests.take i):=qiz (by rw [List.map_take,List.map_take,q8])
 unfold guestBad at h0 ⊢
 simp only [hg]
 split at h0
 ·cases h0
 ·rename_i hnm
  rw [if_neg hnm]
  split at h0
  ·cases h0
  ·split at h0
   ·cases h0
   ·split at h0
    ·cases h0
    ·rename_i hd
     have hS:(if S i=true then (1:Int) else 0)=1∨(if S i=true then (1:Int) else 0)=0:=by cases S i <;> simp
     rw [if_neg (by omega),if_neg (by
      rintro (⟨hz,_⟩|⟨hz,_⟩|⟨_,hz⟩)
      ·omega
      ·omega
      ·simp at hz),if_neg hd]
theorem qg3 {m:Mtg} (hf:(mtgFault m).1=0) {j:Nat} (hj:j<m.guests.length):gidx (fun g=>g.Address.toList==m.guests[j].Address.toList) 0 m.guests=j:=by
 obtain ⟨_,he⟩:=qf7 hf
 have h0:=he j hj
 have hd:¬ (0≤gidx (fun x=>x.Address.toList==m.guests[j].Address.toList) 0 (m.guests.take j)):=by
  intro hc
  unfold guestBad at h0
  split at h0
  ·cases h0
  ·split at h0
   ·cases h0
   ·split at h0
    ·cases h0
    ·rw [if_pos (by simp [hc])] at h0
     cases h0
 rw [qj0 (j:=j) hj (by simp) ?_]
 ·simp
 ·intro i hi hij
  cases hb:(m.guests[i].Address.toList==m.guests[j].Address.toList) with
  |false=>rfl
  |true =>
   refine absurd (qj2 (g:=m.guests[i]) ?_ hb) hd
   rw [List.mem_take_iff_getElem]
   exact ⟨i,by omega,rfl⟩
end Go.Proofs.YtfakibajjibjjaaGreatDoor
namespace Go.Proofs.YtfakibajjibjjaaGreatDoor
set_option linter.unusedSimpArgs false
open Go.RowKit
def calF:Nat→List (List Pd)→Int×Int
 |_,[]=>(0,0)
 |k,c::ls=>if (perFault c).1=0 then calF (k+1) ls else ((perFault c).1,(k:Int))
theorem q7y:∀ (ls:List (List Pd)) (k:Nat),(calF k ls).1=0→calF k ls=(0,0)∧∀ c∈ls,(perFault c).1=0
 |[],k,_=>⟨rfl,by simp⟩
 |c::ls,k,h=>by
  unfold calF at h ⊢
  by_cases hc:(perFault c).1=0
  ·rw [if_pos hc] at h ⊢
   obtain ⟨h1,h2⟩:=q7y ls (k+1) h
   exact ⟨h1,fun d hd=>by rcases List.mem_cons.1 hd with e|e;exact e ▸ hc;exact h2 d e⟩
  ·rw [if_neg hc] at h
   exact absurd h hc
theorem q6q (ls:List (List Pd)) (n f t:Int) (hn:ls.length≤9223372036854775807) (hl:∀ c∈ls,c.length≤9223372036854775807):∀ (m k:Nat),k+m=ls.length →
  qqi ls n f t ls ls.length k 0 0 0 0=some (if (calF k (ls.drop k)).1=0 then .inr ((ls,n,f,t,(),(),ls,(ls.length:Int),(ls.length:Int),false),((0,0),(0,0))) else .inl (((),false,()),((0,0),calF k (ls.drop k)))):=by
 intro m
 induction m with
 |zero =>
  intro k hk
  have:k=ls.length:=by omega
  subst this
  refine qqk ?_
  simp only [qqp,q77,qit,EC.decL_encL,EC.isL_encL,EC.encL_length,qmg,q3a,q3b,q29,q2w,qxe,qxd,qxf,qmi,q3c,q2b,q2y,qxg,qmh,q3g,q2a,q2x,qxl,qmk,q3d,q3e,q2d,q30,qxi,qxh,qxj,qmm,q3l,q3m,q3o,q3p,q3q,q3r,q3s,q3t,q3u,q3v,q3n,q2f,q32,qxt,qxs,qxv,qxw,qxy,qxx,qxz,qy0,qy1,qy3,qy2,qy4,qy5,qxu,qmn,q3w,q3x,q48,q4d,q4e,q4f,q4g,q4h,q4i,q4j,q3y,q3z,q40,q41,q42,q43,q44,q45,q46,q47,q49,q4a,q4b,q4c,q2g,q33,qy7,qy6,qyj,qyo,qyp,qyq,qyr,qys,qyt,qyv,qyu,qyw,qy8,qy9,qya,qyb,qyc,qyd,qyf,qye,qyg,qyh,qyi,qyk,qyl,qym,qyn,qml,q3h,q3i,q3j,q3k,q2e,q31,qxn,qxm,qxo,qxq,qxp,qxr,qmj,q3f,q2c,q2z,qxk]
  simp [calF]
 |succ m ih =>
  intro k hk
  have hlt:k<ls.length:=by omega
  have hk':(k:Int)<(ls.length:Int):=by omega
  have h1:=ih (k+1) (by omega)
  have hc:=hl ls[k] (List.getElem_mem hlt)
  rw [qcv hlt,calF]
  refine qqk ?_
  simp only [qqp,q77,qit,EC.decL_encL,EC.isL_encL,EC.encL_length,qmg,q3a,q3b,q29,q2w,qxe,qxd,qxf,qmi,q3c,q2b,q2y,qxg,qmh,q3g,q2a,q2x,qxl,qmk,q3d,q3e,q2d,q30,qxi,qxh,qxj,qmm,q3l,q3m,q3o,q3p,q3q,q3r,q3s,q3t,q3u,q3v,q3n,q2f,q32,qxt,qxs,qxv,qxw,qxy,qxx,qxz,qy0,qy1,qy3,qy2,qy4,qy5,qxu,qmn,q3w,q3x,q48,q4d,q4e,q4f,q4g,q4h,q4i,q4j,q3y,q3z,q40,q41,q42,q43,q44,q45,q46,q47,q49,q4a,q4b,q4c,q2g,q33,qy7,qy6,qyj,qyo,qyp,qyq,qyr,qys,qyt,qyv,qyu,qyw,qy8,qy9,qya,qyb,qyc,qyd,qyf,qye,qyg,qyh,qyi,qyk,qyl,qym,qyn,qml,q3h,q3i,q3j,q3k,q2e,q31,qxn,qxm,qxo,qxq,qxp,qxr,qmj,q3f,q2c,q2z,qxk,Int.toNat_natCast,qiw hlt,q8z _ hc,qf6,qf9,Option.bind_some,q15g hlt hn,h1]
  by_cases hp:(perFault ls[k]).1=0
  ·simp [hk',hlt,hp]
  ·simp [hk',hlt,hp]
def bestR (ls:List (List Pd)) (n f t:Int):(Int×Int)×Bool×(Int×Int) :=
 if 30<ls.length then ((0,0),false,(2,-1)) else if (calF 0 ls).1≠0 then ((0,0),false,calF 0 ls) else if (spanFault f t).1≠0 then ((0,0),false,spanFault f t)
 else if n<1∨68719476736<n then ((0,0),false,(3,-3)) else match gp t n f (unionU ls.flatten) with
  |[]=>((0,0),false,(0,0))
  |q::_=>((q.From,q.From+n),true,(0,0))
theorem qgo {ls:List (List Pd)} (h:∀ c∈ls,(perFault c).1=0):Bnd ls.flatten:=fun p hp=>by
 obtain ⟨c,hc,hp'⟩:=List.mem_flatten.1 hp
 exact (qu5 (h c hc)).1 p hp'
theorem qgp:∀ {ls:List (List Pd)},(∀ c∈ls,(perFault c).1=0)→ls.flatten.length≤500*ls.length
 |[],_=>by simp
 |c::ls,h=>by
  have h1:=qgp fun d hd=>h d (List.mem_cons_of_mem _ hd)
  have h2:=(qu5 (h c (List.mem_cons_self ..))).2.1
  rw [List.flatten_cons,List.length_append,List.length_cons]
  omega
theorem best_s (ls:List (List Pd)) (n f t:Int) (hn:ls.length≤9223372036854775807) (hl:∀ c∈ls,c.length≤9223372036854775807):qqq ls n f t=some (bestR ls n f t):=qqh (by
 have hb:=q6q ls n f t hn hl ls.length 0 (by omega)
 rw [List.drop_zero] at hb
 simp only [Int.natCast_zero] at hb
 simp only [qqr,q77,qit,EC.decL_encL,EC.isL_encL,EC.encL_length,qmg,q3a,q3b,q29,q2w,qxe,qxd,qxf,qmi,q3c,q2b,q2y,qxg,qmh,q3g,q2a,q2x,qxl,qmk,q3d,q3e,q2d,q30,qxi,qxh,qxj,qmm,q3l,q3m,q3o,q3p,q3q,q3r,q3s,q3t,q3u,q3v,q3n,q2f,q32,qxt,qxs,qxv,qxw,qxy,qxx,qxz,qy0,qy1,qy3,qy2,qy4,qy5,qxu,qmn,q3w,q3x,q48,q4d,q4e,q4f,q4g,q4h,q4i,q4j,q3y,q3z,q40,q41,q42,q43,q44,q45,q46,q47,q49,q4a,q4b,q4c,q2g,q33,qy7,qy6,qyj,qyo,qyp,qyq,qyr,qys,qyt,qyv,qyu,qyw,qy8,qy9,qya,qyb,qyc,qyd,qyf,qye,qyg,qyh,qyi,qyk,qyl,qym,qyn,qml,q3h,q3i,q3j,q3k,q2e,q31,qxn,qxm,qxo,qxq,qxp,qxr,qmj,q3f,q2c,q2z,qxk,hb,qf9,qsz,span_s,qf6,Option.bind_some,if_true,q6n]
 unfold bestR
 by_cases h0:30<ls.length
 ·have:(30:Int)<ls.length:=by omega
  simp [h0,this]
 have h0':¬ (30:Int)<ls.length:=by omega
 by_cases h1:(calF 0 ls).1=0
 ·obtain ⟨_,hall⟩:=q7y ls 0 h1
  have hfb:=qgo hall
  have hfl:=qgp hall
  by_cases h2:(spanFault f t).1=0
  ·obtain ⟨a,b,c,_⟩:=q101 h2
   by_cases h3:n<1
   ·simp [h0,h0',h1,h2,h3]
    intro;omega
   ·by_cases h4:68719476736<n
    ·simp [h0,h0',h1,h2,h3,h4]
    ·have hg:=gaps_s ls.flatten f t n hfb (by omega) (by omega) (by omega)
     have hcat:catS ls=some (ls.flatten.length,ls.flatten):=by unfold catS;rw [if_pos (by omega)]
     cases hgp:gp t n f (unionU ls.flatten) with
     |nil =>
      rw [hgp] at hg
      simp [h0,h0',h1,h2,h3,h4,hcat,hg]
     |cons q r =>
      rw [hgp] at hg
      have hq:=qj5 _ _ q (by rw [hgp];exact List.mem_cons_self ..)
      have hw:IntKind.i64.wrap (q.From+n)=q.From+n:=q15f (by omega) (by omega)
      have hlen0:0<(q::r).length:=by simp
      simp [h0,h0',h1,h2,h3,h4,hcat,hg,len_24 (q::r) 0 hlen0,qmu (q::r) 0 hlen0,hw]
      rw [if_pos (by omega)]
      simp [EC.encL,qdp,isP,isK]
  ·simp [h0,h0',h1,h2]
 ·simp [h0,h0',h1])
set_option maxRecDepth 100000
def Ok {α:Type} (o:Option α) (Q:α→Prop):Prop:=∃ r,o=some r∧Q r
theorem qte {α:Type} {x:α} {Q:α→Prop} (h:Q x):Ok (some x) Q:=⟨x,rfl,h⟩
theorem Ok.mono {α:Type} {o:Option α} {Q R:α→Prop} (h:Ok o Q) (k:∀ r,Q r→R r):Ok o R:=by obtain ⟨r,e,q⟩:=h;exact ⟨r,e,k r q⟩
theorem Ok.via {α:Type} {t s:Option α} {Q:α→Prop} (e:∀ {r},t=some r→s=some r) (h:Ok t Q):Ok s Q:=by obtain ⟨r,e1,q⟩:=h;exact ⟨r,e e1,q⟩
theorem qtc {α:Type} {q:Bool} {a b:Option α} {Q:α→Prop} (h1:q=true→Ok a Q) (h2:q=false→Ok b Q):Ok (brE q a b) Q:=by
 cases q with
 |true=>exact h1 rfl
 |false=>exact h2 rfl
theorem qtd {α:Type} {q:Bool} {a:Option α} {Q:α→Prop} (hq:q=true) (h:Ok a Q):Ok (gdE q a) Q:=by subst hq;exact h
theorem qtb {α β:Type} {o:Option α} {f:α→Option β} {P:α→Prop} {Q:β→Prop} (h:Ok o P) (k:∀ r,P r→Ok (f r) Q):Ok (o.bind f) Q:=by
 obtain ⟨r,rfl,p⟩:=h
 exact k r p
theorem qf8 (a b:Int):Ok (q5l a b) fun r=>r=(a,b):=⟨_,q5k rfl,rfl⟩
theorem qsy:Ok q69 fun r=>r=(0,0):=⟨_,q68 rfl,rfl⟩
theorem qf5 (a b:Int):Ok (q5f a b) fun r=>r=(a != 0):=⟨_,q5e rfl,rfl⟩
theorem q131 (t:Int):Ok (q6f t) fun r=>r=(decide (-68719476736≤t)&&decide (t≤68719476736)):=⟨_,q6e (r:=decide (-68719476736≤t)&&decide (t≤68719476736)) (by
 simp only [q6g,q77,q6o,ge_iff_le]
 cases decide (-68719476736≤t) <;> rfl),rfl⟩
theorem q17n (n a b:Int):Ok (q17o n a b) fun r=>r=(decide (a≤n)&&decide (n≤b)):=⟨_,q17m (r:=decide (a≤n)&&decide (n≤b)) (by
 simp only [q17p,q77,q6o,ge_iff_le]
 cases decide (a≤n) <;> rfl),rfl⟩
theorem qdb (n a b:Int):Ok (qdc n a b) fun r=>r=(decide (a≤n)&&decide (n≤b)):=⟨_,qda (r:=decide (a≤n)&&decide (n≤b)) (by
 simp only [qdd,q77,q6o,ge_iff_le]
 cases decide (a≤n) <;> rfl),rfl⟩
theorem qpa (c:Int):Ok (q5r c) fun _=>True:=.via q5q (by
 unfold q5s
 repeat' (first
 |exact ⟨_,rfl,trivial⟩
 |(refine qtc ?_ ?_ <;> intro _)
 |(refine qtb (qf8 _ _) ?_;(intro _ hh;cases hh))
 |(refine qtb qsy ?_;(intro _ hh;cases hh))
 |(refine qtb (qf5 _ _) ?_;(intro _ hh;cases hh))
 |(refine qtb (q17n _ _ _) ?_;(intro _ hh;cases hh))
 |(refine qtb (qdb _ _ _) ?_;(intro _ hh;cases hh))
 |(refine qtb (q131 _) ?_;(intro _ hh;cases hh))))
theorem qsk (c:Int):Ok (q5x c) fun _=>True:=.via q5w (by
 unfold q5y
 repeat' (first
  |exact ⟨_,rfl,trivial⟩
  |(refine qtc ?_ ?_ <;> intro _)
  |(refine qtb (qpa _) ?_;intro _ _)))
theorem q25 (s:ByteArray) (hs:s.size≤60):∀ m k:Nat,k+m=s.size→Ok (q1x s s.size k) fun _=>True:=by
 intro m
 induction m with
 |zero =>
  intro k hk
  refine .via q1z ?_
  unfold q24
  rw [show decide ((k:Int)<(s.size:Int))=false by simp;omega]
  exact qte trivial
 |succ m ih =>
  intro k hk
  refine .via q1z ?_
  unfold q24
  rw [show decide ((k:Int)<(s.size:Int))=true by simp;omega]
  refine qtd (by simp;omega) ?_
  refine qtb (qsk _) ?_
  intro q _
  refine qtc (fun _=>qte trivial) fun _=>?_
  rw [q15g (n:=s.size) (by omega) (by omega)]
  exact ih (k+1) (by omega)
theorem q26 (s:ByteArray) (hs:s.size≤60):Ok (q27 s) fun _=>True:=.via q1w (by
 unfold q28
 refine qtb (q25 s hs s.size 0 (by omega)) ?_
 intro r _
 cases r <;> exact qte trivial)
theorem qsl (s:ByteArray):Ok (q63 s) fun _=>True:=.via q62 (by
 unfold q64
 refine qtc (fun _=>?_) fun _=>qte trivial
 refine qtc (fun h=>?_) fun _=>qte trivial
 simp at h
 refine qtb (q26 s (by omega)) ?_
 intro r _
 exact qte trivial)
theorem q16f (z1:ByteArray) (z2 z3 z4 z5 z6 z7 z8 z9 z10 z11:Int):Ok (q16g z1 z2 z3 z4 z5 z6 z7 z8 z9 z10 z11) fun _=>True:=.via q16e (qte trivial)
theorem q17a (a b c d:Int):Ok (q17b a b c d) fun _=>True:=.via q179 (by
 unfold q17c
 repeat' (first
 |exact ⟨_,rfl,trivial⟩
 |(refine qtc ?_ ?_ <;> intro _)
 |(refine qtb (qf8 _ _) ?_;(intro _ hh;cases hh))
 |(refine qtb qsy ?_;(intro _ hh;cases hh))
 |(refine qtb (qf5 _ _) ?_;(intro _ hh;cases hh))
 |(refine qtb (q17n _ _ _) ?_;(intro _ hh;cases hh))
 |(refine qtb (qdb _ _ _) ?_;(intro _ hh;cases hh))
 |(refine qtb (q131 _) ?_;(intro _ hh;cases hh))))
theorem q17i (z1:ByteArray) (z2 z3 z4 z5 z6 z7 z8 z9 z10 z11:Int):Ok (zval_s z1 z2 z3 z4 z5 z6 z7 z8 z9 z10 z11) fun _=>True:=.via q17h (by
 unfold zval_t
 repeat' (first
  |exact ⟨_,rfl,trivial⟩
  |(refine qtc ?_ ?_ <;> intro _)
  |(refine qtb (qf8 _ _) ?_;rintro _ rfl)
  |(refine qtb qsy ?_;rintro _ rfl)
  |(refine qtb (q17n _ _ _) ?_;rintro _ rfl)
  |(refine qtb (qsl _) ?_;intro _ _)
  |(refine qtb (q16f _ _ _ _ _ _ _ _ _ _ _) ?_;intro _ _)
  |(refine qtb (q17a _ _ _ _) ?_;intro _ _)))
theorem qp8 (y:Int):Ok (qbc y) fun _=>True:=.via qbb (by
 unfold qbd
 repeat' (first
 |exact ⟨_,rfl,trivial⟩
 |(refine qtc ?_ ?_ <;> intro _)
 |(refine qtb (qf8 _ _) ?_;(intro _ hh;cases hh))
 |(refine qtb qsy ?_;(intro _ hh;cases hh))
 |(refine qtb (qf5 _ _) ?_;(intro _ hh;cases hh))
 |(refine qtb (q17n _ _ _) ?_;(intro _ hh;cases hh))
 |(refine qtb (qdb _ _ _) ?_;(intro _ hh;cases hh))
 |(refine qtb (q131 _) ?_;(intro _ hh;cases hh))))
theorem qcs (y m:Int) (h1:1≤m) (h2:m≤12):Ok (dlen_s y m) fun _=>True:=.via qcr (by
 unfold dlen_t
 have hw:IntKind.i64.wrap (m - 1)=m - 1:=q15f (by omega) (by omega)
 rw [hw]
 refine qtd ?_ ?_
 ·have a:(0:Int)≤m - 1:=by omega
  have b:m - 1<12:=by omega
  have c:(m - 1).toNat<12:=by omega
  simp only [Bool.and_eq_true,decide_eq_true_eq]
  exact ⟨⟨a,b⟩,c⟩
 ·repeat' (first
   |exact ⟨_,rfl,trivial⟩
   |(refine qtc ?_ ?_ <;> intro _)
   |(refine qtb (qp8 _) ?_;intro _ _)))
theorem qbi (y:Int):Ok (qbj y) fun _=>True:=.via qbh (qte trivial)
theorem qbw (y m:Int) (hm:m≤12):∀ (g:Nat) (n k:Int),1≤k→m - k≤g→Ok (qbp y m n k) fun _=>True:=by
 intro g
 induction g with
 |zero =>
  intro n k h1 h2
  refine .via qbr ?_
  unfold qbv
  rw [show decide (k<m)=false by simp;omega]
  exact qte trivial
 |succ g ih =>
  intro n k h1 h2
  refine .via qbr ?_
  unfold qbv
  refine qtc (fun h=>?_) fun _=>qte trivial
  simp at h
  refine qtb (qcs y k h1 (by omega)) ?_
  intro r _
  rw [q15f (x:=k+1) (by omega) (by omega)]
  exact ih _ _ (by omega) (by omega)
theorem qbx (y m d:Int) (hm:m≤12):Ok (qby y m d) fun _=>True:=.via qbo (by
 unfold dday_t
 refine qtb (qbi _) fun _ _=>qtb (qbi _) fun _ _=>qtb (qbw y m hm (m - 1).toNat _ 1 (by omega) (by omega)) fun _ _=>qte trivial)
theorem qd6 (y m d h n s z:Int):Ok (dval_s y m d h n s z) fun r=>r.1=0→1≤m∧m≤12:=.via qd5 (by
 unfold dval_t
 refine qtb (qdb _ _ _) ?_
 rintro _ rfl
 refine qtc (fun _=>?_) fun _=>qtb (qf8 _ _) (by rintro _ rfl;exact qte fun h=>by simp at h)
 refine qtb (qdb _ _ _) ?_
 rintro _ rfl
 refine qtc (fun hm=>?_) fun _=>qtb (qf8 _ _) (by rintro _ rfl;exact qte fun h=>by simp at h)
 simp at hm
 have hP:1≤m∧m≤12:=hm
 refine qtb (qcs _ _ ?_ ?_) ?_
 ·repeat' split
  all_goals omega
 ·repeat' split
  all_goals omega
 intro r _
 repeat' (first
  |exact ⟨_,rfl,fun _=>hP⟩
  |(refine qtc ?_ ?_ <;> intro _)
  |(refine qtb (qf8 _ _) ?_;rintro _ rfl)
  |(refine qtb qsy ?_;rintro _ rfl)
  |(refine qtb (qdb _ _ _) ?_;rintro _ rfl)))
theorem bne0 {a:Int} (h:(a != 0)=false):a=0:=by simpa using h
theorem qcl (y m d h n s z:Int):Ok (qcm y m d h n s z) fun _=>True:=.via qck (by
 unfold qcn
 refine qtb (qd6 y m d h n s z) ?_
 intro r hr
 refine qtb (qf5 _ _) ?_
 rintro _ rfl
 refine qtc (fun _=>qte trivial) fun h0=>?_
 exact qtb (qbx y m d (hr (bne0 h0)).2) fun _ _=>qtb qsy fun _ _=>qte trivial)
theorem qd0 (n b:Int) (hb:b≠0):Ok (qd1 n b) fun _=>True:=.via qcz (by
 unfold qd2
 have:(b==0)=false:=by simpa using hb
 simp only [this]
 exact qte trivial)
theorem q158 (y m d h n s z:Int):Ok (wday_s y m d h n s z) fun _=>True:=.via q157 (by
 unfold wday_t
 refine qtb (qd6 y m d h n s z) ?_
 intro r hr
 refine qtb (qf5 _ _) ?_
 rintro _ rfl
 refine qtc (fun _=>qte trivial) fun h0=>?_
 exact qtb (qbx y m d (hr (bne0 h0)).2) fun _ _=>qtb (qd0 _ 7 (by decide)) fun _ _=>qtb qsy fun _ _=>qte trivial)
theorem q16m (a b c d y h:Int):Ok (q16n a b c d y h) fun _=>True:=.via q16l (by
 unfold q16o
 repeat' (first
  |exact ⟨_,rfl,trivial⟩
  |(refine qtc ?_ ?_ <;> intro _)
  |(refine qtb (q158 _ _ _ _ _ _ _) ?_;intro _ _)
  |(refine qtb (qd6 _ _ _ _ _ _ _) ?_;intro _ _)
  |(refine qtb (qf5 _ _) ?_;rintro _ rfl)
  |(refine qtb (qcl _ _ _ _ _ _ _) ?_;intro _ _)))
def YearIn (y days:Int):Prop:=Ok (qby y 1 1) fun d=>d≤days
theorem qta {α β:Type} {o:Option α} {x:α} {f:α→Option β} {Q:β→Prop} (h:o=some x) (k:Ok (f x) Q):Ok (o.bind f) Q:=by subst h;exact k
theorem q90 (zone days s:Int) (b0 b1 b2 b3 b4 b5 b6 c0 c1:Int):∀ (g:Nat) (y step:Int),step≤g→step≤4096→YearIn y days→Ok (q96 zone days s y step b0 b1 b2 b3 b4 b5 b6 c0 c1) fun r=>r.1.2.2.2.1=days∧YearIn r.1.2.2.2.2.2.1 days:=by
 intro g
 induction g with
 |zero =>
  intro y step h1 h4 hy
  refine .via q98 ?_
  unfold q9c
  rw [show decide (step>0)=false by simp;omega]
  exact qte ⟨rfl,hy⟩
 |succ g ih =>
  intro y step h1 h4 hy
  refine .via q98 ?_
  unfold q9c
  refine qtc (fun h=>?_) fun _=>qte ⟨rfl,hy⟩
  simp at h
  have hs:IntKind.i64.wrap (Int.tdiv step 2)≤g∧IntKind.i64.wrap (Int.tdiv step 2)≤4096:=by
   rw [Int.tdiv_eq_ediv_of_nonneg (by omega),q15f (by omega) (by omega)]
   omega
  refine qtc (fun _=>?_) fun _=>ih _ _ hs.1 hs.2 hy
  obtain ⟨d,hd,_⟩:=qbx (IntKind.i64.wrap (y+step)) 1 1 (by omega)
  refine qta hd ?_
  refine qtc (fun hle=>ih _ _ hs.1 hs.2 ⟨d,hd,by simpa using hle⟩) fun _=>ih _ _ hs.1 hs.2 hy
theorem q91 (zone days s y:Int) (b0 b1 b2 b3 b4 b5 b6 c0 c1:Int) (hy:YearIn y days):∀ (g:Nat) (m:Int),m=g+1→m≤12→Ok (q9d zone days s y m b0 b1 b2 b3 b4 b5 b6 c0 c1) fun r=>r.1.2.2.2.2.2.2.1≤12:=by
 intro g
 induction g with
 |zero =>
  intro m h1 h2
  obtain rfl:m=1:=by omega
  refine .via q9f ?_
  unfold q9j
  obtain ⟨d,hd,hle⟩:=hy
  refine qta hd ?_
  rw [show decide (d>days)=false by simp;omega]
  exact qte h2
 |succ g ih =>
  intro m h1 h2
  refine .via q9f ?_
  unfold q9j
  refine qtb (qbx y m 1 h2) fun d _=>?_
  refine qtc (fun _=>?_) fun _=>qte h2
  rw [q15f (x:=m - 1) (by omega) (by omega)]
  exact ih _ (by omega) (by omega)
theorem q9k (t zone:Int):Ok (q9l t zone) fun _=>True:=.via q95 (by
 unfold q9m
 refine qtb (q131 _) fun _ _=>qtc (fun _=>qtb (qf8 _ _) fun _ _=>qte trivial) fun _=>?_
 refine qtb (qdb _ _ _) fun _ _=>qtc (fun _=>qtb (qf8 _ _) fun _ _=>qte trivial) fun _=>?_
 refine qtb (qd0 _ _ (by decide)) fun r2 _=>?_
 obtain ⟨d,hd,_⟩:=qbx 1 1 1 (by omega)
 refine qta hd ?_
 refine qtc (fun h=>?_) fun _=>qtb (qf8 _ _) fun _ _=>qte trivial
 simp at h
 refine qtb (qbx _ _ _ (by decide)) fun d2 _=>qtc (fun _=>qtb (qf8 _ _) fun _ _=>qte trivial) fun _=>?_
 refine qtb (q90 zone r2.1 r2.2 0 0 0 0 0 0 0 0 0 2048 1 2048 (by decide) (by decide) ⟨d,hd,h⟩) fun r5 h5=>?_
 rw [h5.1]
 refine qtb (q91 _ _ _ _ _ _ _ _ _ _ _ _ _ h5.2 11 12 (by decide) (by decide)) fun r6 h6=>?_
 exact qtb (qbx _ _ _ h6) fun _ _=>qtb qsy fun _ _=>qte trivial)
set_option maxRecDepth 100000
theorem q16r (t year:Int) (c0:ByteArray) (c1 c2 c3 c4 c5 c6 c7 c8 c9 c10:Int) (h0:-1000000≤year) (h1:year≤1000000):∀ (g:Nat) (best out:Int) (has:Bool) (y:Int),-2000000≤y→year+2 - y≤g→Ok (q16w t year best out has y c0 c1 c2 c3 c4 c5 c6 c7 c8 c9 c10) fun _=>True:=by
 intro g
 induction g with
 |zero =>
  intro best out has y hy hg
  refine .via q16y ?_
  unfold q172
  rw [q15f (x:=year+1) (by omega) (by omega),show decide (y≤year+1)=false by simp;omega]
  exact qte trivial
 |succ g ih =>
  intro best out has y hy hg
  refine .via q16y ?_
  unfold q172
  rw [q15f (x:=year+1) (by omega) (by omega)]
  refine qtc (fun h=>?_) fun _=>qte trivial
  simp at h
  rw [q15f (x:=y+1) (by omega) (by omega)]
  have ih':∀ (best out:Int) (has:Bool),Ok (q16w t year best out has (y+1) c0 c1 c2 c3 c4 c5 c6 c7 c8 c9 c10) fun _=>True:=fun a b c=>ih a b c _ (by omega) (by omega)
  repeat' (first
   |exact ih' _ _ _
   |(refine qtc ?_ ?_ <;> intro _)
   |(refine qtb (q16m _ _ _ _ _ _) ?_;intro _ _))
theorem q173 (z1:ByteArray) (z2 z3 z4 z5 z6 z7 z8 z9 z10 z11 t year:Int) (h0:-1000000≤year) (h1:year≤1000000):Ok (q174 z1 z2 z3 z4 z5 z6 z7 z8 z9 z10 z11 t year) fun _=>True:=.via q16v (by
 unfold q175
 refine qtb (q16f _ _ _ _ _ _ _ _ _ _ _) fun _ _=>qtc (fun _=>qte trivial) fun _=>?_
 rw [q15f (x:=year - 1) (by omega) (by omega)]
 exact qtb (q16r t year _ _ _ _ _ _ _ _ _ _ _ h0 h1 3 _ _ _ _ (by omega) (by omega)) fun _ _=>qte trivial)
theorem q163 (z1:ByteArray) (z2 z3 z4 z5 z6 z7 z8 z9 z10 z11 t:Int):Ok (q164 z1 z2 z3 z4 z5 z6 z7 z8 z9 z10 z11 t) fun _=>True:=.via q162 (by
 unfold q165
 refine qtb (q17i _ _ _ _ _ _ _ _ _ _ _) fun _ _=>qtb (qf5 _ _) fun _ _=>qtc (fun _=>qte trivial) fun _=>?_
 refine qtb (q131 _) fun _ _=>qtc (fun _=>qtb (qf8 _ _) fun _ _=>qte trivial) fun _=>?_
 refine qtb (q9k _ _) fun r3 _=>qtb (qf5 _ _) fun _ _=>qtc (fun _=>?_) fun _=>qtb (qf8 _ _) fun _ _=>qte trivial
 refine qtb (q17n _ _ _) fun r5 h5=>qtc (fun _=>qtb (qf8 _ _) fun _ _=>qte trivial) fun h6=>?_
 subst h5
 have h7:(decide (2≤r3.1.1)&&decide (r3.1.1≤3999))=true:=by simpa using h6
 simp at h7
 exact qtb (q173 _ _ _ _ _ _ _ _ _ _ _ _ _ (by omega) (by omega)) fun _ _=>qtb qsy fun _ _=>qte trivial)
theorem qmt (x:List C):∀ (l:List (List C)) (n:Nat),(∀ e∈l,∃ a,e=[.int .i64 a])→n<l.length→isP [K1.int IntKind.i64] 0 (l.getD n [])=true:=fun l n h hn=>by
 rw [qiw hn]
 obtain ⟨a,ha⟩:=h _ (List.getElem_mem hn)
 rw [ha]
 simp [isP,isE,isK]
theorem qdu (l:List Int):∀ e∈qdf.encL l,∃ a,e=[.int .i64 a]:=fun e he=>by
 obtain ⟨a,_,rfl⟩:=List.mem_map.1 he
 exact ⟨a,rfl⟩
theorem q15k (n t50:Int) (c0:ByteArray) (c1 c2 c3 c4 c5 c6 c7 c8 c9 c10 d0 d1:Int) (b3:List Int) (h50:t50=b3.length) (h3:b3.length≤2):∀ (g k:Nat) (b2:List Int),k+g=b3.length→b2.length≤k→Ok (q15p n b2.length b3.length t50 k c0 c1 c2 c3 c4 c5 c6 c7 c8 c9 c10 d0 d1 b2 b3) fun r=>r.2.2.2.1.length≤2:=by
 intro g
 induction g with
 |zero =>
  intro k b2 hk hb
  refine .via q15r ?_
  unfold q15v
  rw [show decide ((k:Int)<t50)=false by simp;omega]
  refine qtd (EC.isL_encL _ _) (qtd (EC.isL_encL _ _) (qte ?_))
  show (qdf.decL (qdf.encL b2)).length≤2
  rw [EC.decL_encL]
  omega
 |succ g ih =>
  intro k b2 hk hb
  refine .via q15r ?_
  unfold q15v
  rw [show decide ((k:Int)<t50)=true by simp;omega]
  refine qtd (by simp;omega) ?_
  refine qtd (by rw [len_3 _ _ (by simp;omega)];simp;omega) ?_
  refine qtd (qmt [] _ _ (qdu _) (by simp;omega)) ?_
  have hw:IntKind.i64.wrap ((k:Int)+1)=((k+1:Nat):Int):=q15g (n:=2) (by omega) (by omega)
  rw [hw]
  refine qtb (q163 _ _ _ _ _ _ _ _ _ _ _ _) fun _ _=>qtb (qf5 _ _) fun _ _=>?_
  refine qtc (fun _=>qtc (fun _=>?_) fun _=>?_) fun _=>?_
  ·refine qtd ?_ ?_
   ·rw [q2a]
    have:(192+100)*8≤281474976710656:=by decide
    simp
    omega
   refine qtd (by rw [q2x];exact EC.isL_encL _ _) ?_
   refine qtd (EC.isL_encL _ _) ?_
   rw [q2x,EC.decL_encL,EC.decL_encL]
   have:=ih (k+1) (b2++[IntKind.i64.wrap (n - IntKind.i64.wrap (60*qm6 (((qdf.encL b3).getD (k:Int).toNat []).getD 0 .ne)))]) (by omega) (by simp;omega)
   rw [List.length_append] at this
   exact this
  ·refine qtd (EC.isL_encL _ _) (qtd (EC.isL_encL _ _) ?_)
   rw [EC.decL_encL,EC.decL_encL]
   exact ih (k+1) b2 (by omega) (by omega)
  ·refine qtd (EC.isL_encL _ _) (qtd (EC.isL_encL _ _) ?_)
   rw [EC.decL_encL,EC.decL_encL]
   exact ih (k+1) b2 (by omega) (by omega)
theorem qm7 (l:List Int):(qdf.encL l).all intB=true:=by
 rw [List.all_eq_true]
 intro e he
 obtain ⟨a,rfl⟩:=qdu l e he
 rfl
theorem srt_is (l:List Int):qdf.isL (srtL (qdf.encL l))=true:=by
 show qdf.isL (qdf.encL (((qdf.encL l).map intE).mergeSort leI))=true
 exact EC.isL_encL _ _
theorem q15w (z1:ByteArray) (z2 z3 z4 z5 z6 z7 z8 z9 z10 z11 d1 d2 d3 d4 d5 d6 d7:Int):Ok (q15x z1 z2 z3 z4 z5 z6 z7 z8 z9 z10 z11 d1 d2 d3 d4 d5 d6 d7) fun _=>True:=.via q15o (by
 unfold q15y
 refine qtb (q17i _ _ _ _ _ _ _ _ _ _ _) fun _ _=>qtb (qf5 _ _) fun _ _=>qtc (fun _=>qte trivial) fun _=>?_
 refine qtb (qcl _ _ _ _ _ _ _) fun _ _=>qtb (qf5 _ _) fun _ _=>qtc (fun _=>qte trivial) fun _=>?_
 refine qtc (fun _=>qtb (qf8 _ _) fun _ _=>qte trivial) fun _=>?_
 refine qtb (q17n _ _ _) fun _ _=>qtc (fun _=>qtb (qf8 _ _) fun _ _=>qte trivial) fun _=>?_
 refine qtb (q16f _ _ _ _ _ _ _ _ _ _ _) fun _ _=>qtc (fun _=>?_) fun _=>?_
 ·have h:=q15k
  refine qtb (h _ 2 z1 z2 z3 z4 z5 z6 z7 z8 z9 z10 z11 0 0 [z2,z3] rfl (Nat.le_refl 2) 2 0 [] rfl (Nat.le_refl 0)) fun r6 h6=>?_
  refine qtd (by rw [qm7,EC.encL_length];simp;omega) (qtb qsy fun _ _=>qtd (srt_is _) (qte trivial))
 ·have h:=q15k
  refine qtb (h _ 1 z1 z2 z3 z4 z5 z6 z7 z8 z9 z10 z11 0 0 [z2] rfl (Nat.le_succ 1) 1 0 [] rfl (Nat.le_refl 0)) fun r6 h6=>?_
  refine qtd (by rw [qm7,EC.encL_length];simp;omega) (qtb qsy fun _ _=>qtd (srt_is _) (qte trivial)))
end Go.Proofs.YtfakibajjibjjaaGreatDoor
