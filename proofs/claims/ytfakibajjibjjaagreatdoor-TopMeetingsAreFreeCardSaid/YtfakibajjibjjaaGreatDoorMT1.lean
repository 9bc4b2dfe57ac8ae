/- What the functions of meetings answer, in plain words: checks. -/
import Derived.Test.YtfakibajjibjjaaGreatDoorZ36
namespace Go.Proofs.YtfakibajjibjjaaGreatDoor
set_option linter.unusedSimpArgs false
open Go.RowKit
abbrev Gu:=S43
def possB (f t:Int):Bool:=decide (f<t)&&(timeB f&&timeB t)
def namedB (s:ByteArray):Bool:=decide (1≤s.size)&&decide (s.size≤4000)
theorem poss_s (f t:Int):qrs f t=some (possB f t):=qrr (by
 by_cases h1:f<t <;> cases h2:timeB f <;> simp [qrt,q77,qit,time_s,possB,h1,h2])
theorem qsm (s:ByteArray):qrm s=some (namedB s):=qrl (by
 by_cases h1:1≤s.size
 ·have h2:(1:Int)≤s.size:=by omega
  have h3:((s.size:Int)≤4000) ↔ s.size≤4000:=by omega
  simp [qrn,q77,qit,namedB,h1,h2,h3]
 ·have h2:¬ (1:Int)≤s.size:=by omega
  simp [qrn,q77,qit,namedB,h1,h2])
theorem qjj (g:Gu) (a:ByteArray) (b c d:Int):qji g.Address g.Answer g.Offer_From g.Offer_To a b c d=some (g.Address.toList==a.toList):=qjh rfl
theorem qko (l:List Gu) (a:ByteArray) (b c d:Int) (hn:l.length≤9223372036854775807):∀ (m k:Nat),k+m=l.length →
  (qkg l a b c d l.length k).bind (Sum.elim (fun x=>some x.1) (fun _=>some (-1)))=some (gidx (fun g=>g.Address.toList==a.toList) k (l.drop k)):=by
 intro m
 induction m with
 |zero =>
  intro k hk
  have:k=l.length:=by omega
  subst this
  have h1:qkg l a b c d l.length l.length=some (.inr ((l,(a,b,c,d),(l.length:Int),(l.length:Int),false),())):=qki (by
   simp only [qkn,q77,qit,EC.decL_encL,EC.isL_encL,EC.encL_length,qmg,q3a,q3b,q29,q2w,qxe,qxd,qxf,qmi,q3c,q2b,q2y,qxg,qmh,q3g,q2a,q2x,qxl,qmk,q3d,q3e,q2d,q30,qxi,qxh,qxj,qmm,q3l,q3m,q3o,q3p,q3q,q3r,q3s,q3t,q3u,q3v,q3n,q2f,q32,qxt,qxs,qxv,qxw,qxy,qxx,qxz,qy0,qy1,qy3,qy2,qy4,qy5,qxu,qmn,q3w,q3x,q48,q4d,q4e,q4f,q4g,q4h,q4i,q4j,q3y,q3z,q40,q41,q42,q43,q44,q45,q46,q47,q49,q4a,q4b,q4c,q2g,q33,qy7,qy6,qyj,qyo,qyp,qyq,qyr,qys,qyt,qyv,qyu,qyw,qy8,qy9,qya,qyb,qyc,qyd,qyf,qye,qyg,qyh,qyi,qyk,qyl,qym,qyn,qml,q3h,q3i,q3j,q3k,q2e,q31,qxn,qxm,qxo,qxq,qxp,qxr,qmj,q3f,q2c,q2z,qxk]
   simp)
  rw [h1]
  simp [gidx]
 |succ m ih =>
  intro k hk
  have hlt:k<l.length:=by omega
  rw [qcv hlt,gidx]
  have hk':(k:Int)<(l.length:Int):=by omega
  by_cases hp:(l[k].Address.toList==a.toList)=true
  ·have h1:qkg l a b c d l.length k=some (.inl ((k:Int),())):=qki (by
    simp only [qkn,q77,qit,EC.decL_encL,EC.isL_encL,EC.encL_length,qmg,q3a,q3b,q29,q2w,qxe,qxd,qxf,qmi,q3c,q2b,q2y,qxg,qmh,q3g,q2a,q2x,qxl,qmk,q3d,q3e,q2d,q30,qxi,qxh,qxj,qmm,q3l,q3m,q3o,q3p,q3q,q3r,q3s,q3t,q3u,q3v,q3n,q2f,q32,qxt,qxs,qxv,qxw,qxy,qxx,qxz,qy0,qy1,qy3,qy2,qy4,qy5,qxu,qmn,q3w,q3x,q48,q4d,q4e,q4f,q4g,q4h,q4i,q4j,q3y,q3z,q40,q41,q42,q43,q44,q45,q46,q47,q49,q4a,q4b,q4c,q2g,q33,qy7,qy6,qyj,qyo,qyp,qyq,qyr,qys,qyt,qyv,qyu,qyw,qy8,qy9,qya,qyb,qyc,qyd,qyf,qye,qyg,qyh,qyi,qyk,qyl,qym,qyn,qml,q3h,q3i,q3j,q3k,q2e,q31,qxn,qxm,qxo,qxq,qxp,qxr,qmj,q3f,q2c,q2z,qxk,Int.toNat_natCast,qiw hlt,qjj,Option.bind_some,hp]
    simp [hlt])
   rw [h1,if_pos hp]
   rfl
  ·have h2:=ih (k+1) (by omega)
   cases hz:qkg l a b c d l.length ((k+1:Nat):Int) with
   |none=>rw [hz] at h2;cases h2
   |some r =>
    have h1:qkg l a b c d l.length k=some r:=qki (by
     simp only [qkn,q77,qit,EC.decL_encL,EC.isL_encL,EC.encL_length,qmg,q3a,q3b,q29,q2w,qxe,qxd,qxf,qmi,q3c,q2b,q2y,qxg,qmh,q3g,q2a,q2x,qxl,qmk,q3d,q3e,q2d,q30,qxi,qxh,qxj,qmm,q3l,q3m,q3o,q3p,q3q,q3r,q3s,q3t,q3u,q3v,q3n,q2f,q32,qxt,qxs,qxv,qxw,qxy,qxx,qxz,qy0,qy1,qy3,qy2,qy4,qy5,qxu,qmn,q3w,q3x,q48,q4d,q4e,q4f,q4g,q4h,q4i,q4j,q3y,q3z,q40,q41,q42,q43,q44,q45,q46,q47,q49,q4a,q4b,q4c,q2g,q33,qy7,qy6,qyj,qyo,qyp,qyq,qyr,qys,qyt,qyv,qyu,qyw,qy8,qy9,qya,qyb,qyc,qyd,qyf,qye,qyg,qyh,qyi,qyk,qyl,qym,qyn,qml,q3h,q3i,q3j,q3k,q2e,q31,qxn,qxm,qxo,qxq,qxp,qxr,qmj,q3f,q2c,q2z,qxk,Int.toNat_natCast,qiw hlt,qjj,Option.bind_some,hp,q15g hlt hn,hz]
     simp [hlt])
    rw [if_neg hp,h1]
    rw [hz] at h2
    exact h2
theorem qkq (l:List Gu) (a:ByteArray) (b c d:Int) (hn:l.length≤9223372036854775807):qkp l a b c d=some (gidx (fun g=>g.Address.toList==a.toList) 0 l):=qkf (by
 have:=qko l a b c d hn l.length 0 (by omega)
 simp only [qkr,qit,EC.decL_encL,EC.isL_encL,EC.encL_length,qmg,q3a,q3b,q29,q2w,qxe,qxd,qxf,qmi,q3c,q2b,q2y,qxg,qmh,q3g,q2a,q2x,qxl,qmk,q3d,q3e,q2d,q30,qxi,qxh,qxj,qmm,q3l,q3m,q3o,q3p,q3q,q3r,q3s,q3t,q3u,q3v,q3n,q2f,q32,qxt,qxs,qxv,qxw,qxy,qxx,qxz,qy0,qy1,qy3,qy2,qy4,qy5,qxu,qmn,q3w,q3x,q48,q4d,q4e,q4f,q4g,q4h,q4i,q4j,q3y,q3z,q40,q41,q42,q43,q44,q45,q46,q47,q49,q4a,q4b,q4c,q2g,q33,qy7,qy6,qyj,qyo,qyp,qyq,qyr,qys,qyt,qyv,qyu,qyw,qy8,qy9,qya,qyb,qyc,qyd,qyf,qye,qyg,qyh,qyi,qyk,qyl,qym,qyn,qml,q3h,q3i,q3j,q3k,q2e,q31,qxn,qxm,qxo,qxq,qxp,qxr,qmj,q3f,q2c,q2z,qxk,if_true]
 exact this)
theorem qjs (l:List Gu) (a:ByteArray) (b c d:Int) (hn:l.length≤9223372036854775807):qjr l a b c d=some (decide (0≤gidx (fun g=>g.Address.toList==a.toList) 0 l)):=qjq (by
 simp only [qjt,qit,EC.decL_encL,EC.isL_encL,EC.encL_length,qmg,q3a,q3b,q29,q2w,qxe,qxd,qxf,qmi,q3c,q2b,q2y,qxg,qmh,q3g,q2a,q2x,qxl,qmk,q3d,q3e,q2d,q30,qxi,qxh,qxj,qmm,q3l,q3m,q3o,q3p,q3q,q3r,q3s,q3t,q3u,q3v,q3n,q2f,q32,qxt,qxs,qxv,qxw,qxy,qxx,qxz,qy0,qy1,qy3,qy2,qy4,qy5,qxu,qmn,q3w,q3x,q48,q4d,q4e,q4f,q4g,q4h,q4i,q4j,q3y,q3z,q40,q41,q42,q43,q44,q45,q46,q47,q49,q4a,q4b,q4c,q2g,q33,qy7,qy6,qyj,qyo,qyp,qyq,qyr,qys,qyt,qyv,qyu,qyw,qy8,qy9,qya,qyb,qyc,qyd,qyf,qye,qyg,qyh,qyi,qyk,qyl,qym,qyn,qml,q3h,q3i,q3j,q3k,q2e,q31,qxn,qxm,qxo,qxq,qxp,qxr,qmj,q3f,q2c,q2z,qxk,if_true,qkq l a b c d hn,Option.bind_some,ge_iff_le])
def guestBad (org:ByteArray) (round:Int) (before:List Gu) (g:Gu):Int :=
 if namedB g.Address=false then 10 else if g.Answer<0∨3<g.Answer then 3
 else if (round=0∧g.Answer≠0)∨(g.Answer=3∧possB g.Offer_From g.Offer_To=false)∨(g.Answer≠3∧¬ (g.Offer_From=0∧g.Offer_To=0)) then 5
 else if ((g.Address.toList==org.toList)||decide (0≤gidx (fun x=>x.Address.toList==g.Address.toList) 0 before))=true then 7 else 0
theorem qjl (org:ByteArray) (l:List Gu) (round pf pt:Int) (can:Bool) (k:Nat) (h:k<l.length) (hn:l.length≤9223372036854775807):qrg org l round pf pt can k=some (guestBad org round (l.take k) l[k]):=qrf (by
 have hk:(k:Int)≤(l.length:Int):=by omega
 have hlt:(l.take k).length≤9223372036854775807:=by simp;omega
 generalize hg:l[k]=g
 simp only [qrh,q77,qit,EC.decL_encL,EC.isL_encL,EC.encL_length,qmg,q3a,q3b,q29,q2w,qxe,qxd,qxf,qmi,q3c,q2b,q2y,qxg,qmh,q3g,q2a,q2x,qxl,qmk,q3d,q3e,q2d,q30,qxi,qxh,qxj,qmm,q3l,q3m,q3o,q3p,q3q,q3r,q3s,q3t,q3u,q3v,q3n,q2f,q32,qxt,qxs,qxv,qxw,qxy,qxx,qxz,qy0,qy1,qy3,qy2,qy4,qy5,qxu,qmn,q3w,q3x,q48,q4d,q4e,q4f,q4g,q4h,q4i,q4j,q3y,q3z,q40,q41,q42,q43,q44,q45,q46,q47,q49,q4a,q4b,q4c,q2g,q33,qy7,qy6,qyj,qyo,qyp,qyq,qyr,qys,qyt,qyv,qyu,qyw,qy8,qy9,qya,qyb,qyc,qyd,qyf,qye,qyg,qyh,qyi,qyk,qyl,qym,qyn,qml,q3h,q3i,q3j,q3k,q2e,q31,qxn,qxm,qxo,qxq,qxp,qxr,qmj,q3f,q2c,q2z,qxk,qo,ql,List.drop_zero,Nat.sub_zero,Int.toNat_natCast,qiw h,hg,qsm,poss_s,qjs _ _ _ _ _ hlt,Option.bind_some,q6o,q6n]
 simp only [h,hk,Int.natCast_nonneg,decide_true,Bool.and_self,if_true]
 unfold guestBad
 generalize decide (0≤gidx (fun x=>x.Address.toList==g.Address.toList) 0 (l.take k))=hs
 generalize (g.Address.toList==org.toList)=ho
 cases namedB g.Address
 ·simp
 by_cases h1:g.Answer<0
 ·simp [h1]
 by_cases h2:3<g.Answer
 ·simp [h1,h2]
 cases possB g.Offer_From g.Offer_To <;> cases hs <;> cases ho <;> by_cases h3:g.Answer=3 <;> by_cases h4:round=0 <;> by_cases h5:g.Answer=0 <;> by_cases h6:g.Offer_From=0 <;> by_cases h7:g.Offer_To=0 <;> simp [h1,h2,h3,h4,h5,h6,h7])
def gfFrom (org:ByteArray) (round:Int) (all:List Gu):Nat→List Gu→Int×Int
 |_,[]=>(0,0)
 |k,g::l=>if guestBad org round (all.take k) g=0 then gfFrom org round all (k+1) l else (guestBad org round (all.take k) g,(k:Int))
structure Mtg where
 org:ByteArray
 guests:List Gu
 round:Int
 pf:Int
 pt:Int
 can:Bool
def mtgFault (m:Mtg):Int×Int :=
 if namedB m.org=false then (10,-2) else if m.guests.length<1∨30<m.guests.length then (2,-1) else if m.round<0∨1000000<m.round then (3,-3)
 else if (0<m.round∧possB m.pf m.pt=false)∨(m.round=0∧¬ (m.pf=0∧m.pt=0)) then (5,-3)
 else gfFrom m.org m.round m.guests 0 m.guests
theorem q14v (m:Mtg) (a b:Int) (hn:m.guests.length≤9223372036854775807):∀ (q k:Nat),k+q=m.guests.length →
  (qr2 m.guests.length k m.org m.guests m.round m.pf m.pt m.can a b).bind (Sum.elim (fun x=>some (x.2.1,x.2.2)) (fun _=>some (0,0)))=some (gfFrom m.org m.round m.guests k (m.guests.drop k)):=by
 intro q
 induction q with
 |zero =>
  intro k hk
  have:k=m.guests.length:=by omega
  subst this
  have h1:qr2 m.guests.length m.guests.length m.org m.guests m.round m.pf m.pt m.can a b=some (.inr (((),(),(m.guests.length:Int),(m.guests.length:Int),false),(m.org,m.guests,m.round,m.pf,m.pt,m.can),(a,b))):=qr4 (by
   simp only [qr9,q77,qit,EC.decL_encL,EC.isL_encL,EC.encL_length,qmg,q3a,q3b,q29,q2w,qxe,qxd,qxf,qmi,q3c,q2b,q2y,qxg,qmh,q3g,q2a,q2x,qxl,qmk,q3d,q3e,q2d,q30,qxi,qxh,qxj,qmm,q3l,q3m,q3o,q3p,q3q,q3r,q3s,q3t,q3u,q3v,q3n,q2f,q32,qxt,qxs,qxv,qxw,qxy,qxx,qxz,qy0,qy1,qy3,qy2,qy4,qy5,qxu,qmn,q3w,q3x,q48,q4d,q4e,q4f,q4g,q4h,q4i,q4j,q3y,q3z,q40,q41,q42,q43,q44,q45,q46,q47,q49,q4a,q4b,q4c,q2g,q33,qy7,qy6,qyj,qyo,qyp,qyq,qyr,qys,qyt,qyv,qyu,qyw,qy8,qy9,qya,qyb,qyc,qyd,qyf,qye,qyg,qyh,qyi,qyk,qyl,qym,qyn,qml,q3h,q3i,q3j,q3k,q2e,q31,qxn,qxm,qxo,qxq,qxp,qxr,qmj,q3f,q2c,q2z,qxk]
   simp)
  rw [h1]
  simp [gfFrom]
 |succ q ih =>
  intro k hk
  have hlt:k<m.guests.length:=by omega
  have hk':(k:Int)<(m.guests.length:Int):=by omega
  rw [qcv hlt,gfFrom]
  by_cases hp:guestBad m.org m.round (m.guests.take k) m.guests[k]=0
  ·have h2:=ih (k+1) (by omega)
   cases hz:qr2 m.guests.length ((k+1:Nat):Int) m.org m.guests m.round m.pf m.pt m.can a b with
   |none=>rw [hz] at h2;cases h2
   |some r =>
    have h1:qr2 m.guests.length k m.org m.guests m.round m.pf m.pt m.can a b=some r:=qr4 (by
     simp only [qr9,q77,qit,EC.decL_encL,EC.isL_encL,EC.encL_length,qmg,q3a,q3b,q29,q2w,qxe,qxd,qxf,qmi,q3c,q2b,q2y,qxg,qmh,q3g,q2a,q2x,qxl,qmk,q3d,q3e,q2d,q30,qxi,qxh,qxj,qmm,q3l,q3m,q3o,q3p,q3q,q3r,q3s,q3t,q3u,q3v,q3n,q2f,q32,qxt,qxs,qxv,qxw,qxy,qxx,qxz,qy0,qy1,qy3,qy2,qy4,qy5,qxu,qmn,q3w,q3x,q48,q4d,q4e,q4f,q4g,q4h,q4i,q4j,q3y,q3z,q40,q41,q42,q43,q44,q45,q46,q47,q49,q4a,q4b,q4c,q2g,q33,qy7,qy6,qyj,qyo,qyp,qyq,qyr,qys,qyt,qyv,qyu,qyw,qy8,qy9,qya,qyb,qyc,qyd,qyf,qye,qyg,qyh,qyi,qyk,qyl,qym,qyn,qml,q3h,q3i,q3j,q3k,q2e,q31,qxn,qxm,qxo,qxq,qxp,qxr,qmj,q3f,q2c,q2z,qxk,qjl _ _ _ _ _ _ k hlt hn,Option.bind_some,hp,q15g hlt hn,hz]
     simp [hlt])
    rw [if_pos hp,h1]
    rw [hz] at h2
    exact h2
  ·have h1:qr2 m.guests.length k m.org m.guests m.round m.pf m.pt m.can a b=some (.inl ((),(guestBad m.org m.round (m.guests.take k) m.guests[k],(k:Int)))):=qr4 (by
    simp only [qr9,q77,qit,EC.decL_encL,EC.isL_encL,EC.encL_length,qmg,q3a,q3b,q29,q2w,qxe,qxd,qxf,qmi,q3c,q2b,q2y,qxg,qmh,q3g,q2a,q2x,qxl,qmk,q3d,q3e,q2d,q30,qxi,qxh,qxj,qmm,q3l,q3m,q3o,q3p,q3q,q3r,q3s,q3t,q3u,q3v,q3n,q2f,q32,qxt,qxs,qxv,qxw,qxy,qxx,qxz,qy0,qy1,qy3,qy2,qy4,qy5,qxu,qmn,q3w,q3x,q48,q4d,q4e,q4f,q4g,q4h,q4i,q4j,q3y,q3z,q40,q41,q42,q43,q44,q45,q46,q47,q49,q4a,q4b,q4c,q2g,q33,qy7,qy6,qyj,qyo,qyp,qyq,qyr,qys,qyt,qyv,qyu,qyw,qy8,qy9,qya,qyb,qyc,qyd,qyf,qye,qyg,qyh,qyi,qyk,qyl,qym,qyn,qml,q3h,q3i,q3j,q3k,q2e,q31,qxn,qxm,qxo,qxq,qxp,qxr,qmj,q3f,q2c,q2z,qxk,qjl _ _ _ _ _ _ k hlt hn,Option.bind_some,qf9]
    simp [hlt,hp])
   rw [h1,if_neg hp]
   rfl
theorem q14w (m:Mtg) (hn:m.guests.length≤9223372036854775807):qra m.org m.guests m.round m.pf m.pt m.can=some (mtgFault m):=qr1 (by
 have hv:=q14v m 0 0 hn m.guests.length 0 (by omega)
 rw [List.drop_zero] at hv
 simp only [Int.natCast_zero] at hv
 have e1:((m.guests.length:Int)<1) ↔ m.guests.length<1:=by omega
 have e2:((30:Int)<(m.guests.length:Int)) ↔ 30<m.guests.length:=by omega
 obtain ⟨r,hr⟩:∃ r,qr2 m.guests.length 0 m.org m.guests m.round m.pf m.pt m.can 0 0=some r:=by
  cases hz:qr2 m.guests.length 0 m.org m.guests m.round m.pf m.pt m.can 0 0 with
  |none=>rw [hz] at hv;cases hv
  |some r=>exact ⟨r,rfl⟩
 rw [hr] at hv
 simp only [Option.bind_some] at hv
 simp only [qrb,q77,qit,EC.decL_encL,EC.isL_encL,EC.encL_length,qmg,q3a,q3b,q29,q2w,qxe,qxd,qxf,qmi,q3c,q2b,q2y,qxg,qmh,q3g,q2a,q2x,qxl,qmk,q3d,q3e,q2d,q30,qxi,qxh,qxj,qmm,q3l,q3m,q3o,q3p,q3q,q3r,q3s,q3t,q3u,q3v,q3n,q2f,q32,qxt,qxs,qxv,qxw,qxy,qxx,qxz,qy0,qy1,qy3,qy2,qy4,qy5,qxu,qmn,q3w,q3x,q48,q4d,q4e,q4f,q4g,q4h,q4i,q4j,q3y,q3z,q40,q41,q42,q43,q44,q45,q46,q47,q49,q4a,q4b,q4c,q2g,q33,qy7,qy6,qyj,qyo,qyp,qyq,qyr,qys,qyt,qyv,qyu,qyw,qy8,qy9,qya,qyb,qyc,qyd,qyf,qye,qyg,qyh,qyi,qyk,qyl,qym,qyn,qml,q3h,q3i,q3j,q3k,q2e,q31,qxn,qxm,qxo,qxq,qxp,qxr,qmj,q3f,q2c,q2z,qxk,qsm,poss_s,qf9,qsz,Option.bind_some,q6o,q6n,hr,if_true]
 unfold mtgFault
 rw [hv]
 cases namedB m.org
 ·simp
 by_cases h1:m.guests.length<1
 ·simp [h1,e1]
 by_cases h2:30<m.guests.length
 ·simp [h1,h2,e1,e2]
 by_cases h3:m.round<0
 ·simp [h1,h2,h3,e1,e2]
 by_cases h4:1000000<m.round
 ·simp [h1,h2,h3,h4,e1,e2]
 cases possB m.pf m.pt <;> by_cases h5:0<m.round <;> by_cases h6:m.round=0 <;> by_cases h7:m.pf=0 <;> by_cases h8:m.pt=0 <;> simp [h1,h2,h3,h4,h5,h6,h7,h8,e1,e2] <;> omega)
end Go.Proofs.YtfakibajjibjjaaGreatDoor
