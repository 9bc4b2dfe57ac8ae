/- What the functions of meetings answer, in plain words: proposals. -/
import Derived.Test.YtfakibajjibjjaaGreatDoorMT1
namespace Go.Proofs.YtfakibajjibjjaaGreatDoor
set_option linter.unusedSimpArgs false
open Go.RowKit
theorem lenb_g (xs:List Gu) (n:Nat):(((qdj.encL xs).getD n []).length==4)=decide (n<xs.length):=by
 by_cases h:n<xs.length
 ·rw [len_43 _ _ h];simp [h]
 ·rw [EC.getD_ge _ _ (Nat.not_lt.1 h)];simp [h]
theorem qa1 (l:List Gu) (h:l.length≤1000000):q9w l=some (l.length,l):=by
 cases l with
 |nil=>exact q9v
 |cons x xs =>
  refine q9u ?_
  simp only [q9x,qit,EC.decL_encL,EC.isL_encL,EC.encL_length,qmg,q3a,q3b,q29,q2w,qxe,qxd,qxf,qmi,q3c,q2b,q2y,qxg,qmh,q3g,q2a,q2x,qxl,qmk,q3d,q3e,q2d,q30,qxi,qxh,qxj,qmm,q3l,q3m,q3o,q3p,q3q,q3r,q3s,q3t,q3u,q3v,q3n,q2f,q32,qxt,qxs,qxv,qxw,qxy,qxx,qxz,qy0,qy1,qy3,qy2,qy4,qy5,qxu,qmn,q3w,q3x,q48,q4d,q4e,q4f,q4g,q4h,q4i,q4j,q3y,q3z,q40,q41,q42,q43,q44,q45,q46,q47,q49,q4a,q4b,q4c,q2g,q33,qy7,qy6,qyj,qyo,qyp,qyq,qyr,qys,qyt,qyv,qyu,qyw,qy8,qy9,qya,qyb,qyc,qyd,qyf,qye,qyg,qyh,qyi,qyk,qyl,qym,qyn,qml,q3h,q3i,q3j,q3k,q2e,q31,qxn,qxm,qxo,qxq,qxp,qxr,qmj,q3f,q2c,q2z,qxk,qm,List.nil_append,Nat.zero_add]
  have h1:(x::xs).length*40≤140737488355328:=by omega
  have h2:(x::xs).length≤9223372036854775807:=by omega
  simp only [List.length_cons] at h h1 h2
  simp
  omega
def clr (g:Gu):Gu:=⟨g.Address,0,0,0⟩
theorem qub (b0:ByteArray) (b02 b03 b04:Int) (b05:Bool) (b1 b11:Int) (b2:ByteArray) (b21:Nat) (b22 b23 b24:Int) (b25:Bool) (b4:List Gu) (n:Nat) (hn:n≤9223372036854775807):∀ (q k:Nat) (L:List Gu),L.length=n→k+q=n →
  qry n k b0 n b02 b03 b04 b05 b1 b11 b2 b21 b22 b23 b24 b25 L b4=some (((),(),(),(n:Int),(n:Int),false),((b0,n,b02,b03,b04,b05),(b1,b11),(b2,b21,b22,b23,b24,b25),L.take k++(L.drop k).map clr,b4)):=by
 intro q
 induction q with
 |zero =>
  intro k L hL hk
  have:k=n:=by omega
  subst this
  refine qs0 ?_
  simp only [qs4,q77,qit,EC.decL_encL,EC.isL_encL,EC.encL_length,qmg,q3a,q3b,q29,q2w,qxe,qxd,qxf,qmi,q3c,q2b,q2y,qxg,qmh,q3g,q2a,q2x,qxl,qmk,q3d,q3e,q2d,q30,qxi,qxh,qxj,qmm,q3l,q3m,q3o,q3p,q3q,q3r,q3s,q3t,q3u,q3v,q3n,q2f,q32,qxt,qxs,qxv,qxw,qxy,qxx,qxz,qy0,qy1,qy3,qy2,qy4,qy5,qxu,qmn,q3w,q3x,q48,q4d,q4e,q4f,q4g,q4h,q4i,q4j,q3y,q3z,q40,q41,q42,q43,q44,q45,q46,q47,q49,q4a,q4b,q4c,q2g,q33,qy7,qy6,qyj,qyo,qyp,qyq,qyr,qys,qyt,qyv,qyu,qyw,qy8,qy9,qya,qyb,qyc,qyd,qyf,qye,qyg,qyh,qyi,qyk,qyl,qym,qyn,qml,q3h,q3i,q3j,q3k,q2e,q31,qxn,qxm,qxo,qxq,qxp,qxr,qmj,q3f,q2c,q2z,qxk]
  simp [←hL]
 |succ q ih =>
  intro k L hL hk
  have hlt:k<L.length:=by omega
  have hkn:k<n:=by omega
  have hk':(k:Int)<(n:Int):=by omega
  refine qs0 ?_
  simp only [qs4,q77,qit,EC.decL_encL,EC.isL_encL,EC.encL_length,qmg,q3a,q3b,q29,q2w,qxe,qxd,qxf,qmi,q3c,q2b,q2y,qxg,qmh,q3g,q2a,q2x,qxl,qmk,q3d,q3e,q2d,q30,qxi,qxh,qxj,qmm,q3l,q3m,q3o,q3p,q3q,q3r,q3s,q3t,q3u,q3v,q3n,q2f,q32,qxt,qxs,qxv,qxw,qxy,qxx,qxz,qy0,qy1,qy3,qy2,qy4,qy5,qxu,qmn,q3w,q3x,q48,q4d,q4e,q4f,q4g,q4h,q4i,q4j,q3y,q3z,q40,q41,q42,q43,q44,q45,q46,q47,q49,q4a,q4b,q4c,q2g,q33,qy7,qy6,qyj,qyo,qyp,qyq,qyr,qys,qyt,qyv,qyu,qyw,qy8,qy9,qya,qyb,qyc,qyd,qyf,qye,qyg,qyh,qyi,qyk,qyl,qym,qyn,qml,q3h,q3i,q3j,q3k,q2e,q31,qxn,qxm,qxo,qxq,qxp,qxr,qmj,q3f,q2c,q2z,qxk,lenb_g,Int.toNat_natCast,qiw hlt,List.length_set,q15g hkn hn,hlt,hk',Int.natCast_nonneg,decide_true,Bool.and_self,if_true]
  rw [ih (k+1) _ (by simpa using hL) (by omega)]
  congr 6
  rw [List.drop_eq_getElem_cons hlt]
  simp only [List.set_set,List.map_cons]
  have e:∀ g:Gu,(L.set k g).take (k+1)=L.take k++[g]:=fun g=>by
   rw [List.take_add_one,List.take_set_of_le (Nat.le_refl _)]
   simp [hlt]
  rw [e]
  rw [List.drop_set_of_lt (Nat.lt_succ_self k)]
  simp [clr,List.getD_eq_getElem?_getD,hlt]
theorem quc (m:Mtg) (f t:Int) (hn:m.guests.length≤1000000) (h0:0≤m.round) (h1:m.round≤1000000):qs5 m.org m.guests m.round m.pf m.pt m.can f t=some ((m.org,m.guests.length,m.round+1,f,t,m.can),m.guests.map clr):=qrx (by
 have hw:IntKind.i64.wrap (m.round+1)=m.round+1:=IntWalk.i64_in _ (by omega)
 have hl:=qub m.org m.round m.pf m.pt m.can f t ⟨#[]⟩ 0 0 0 0 false [] m.guests.length (by omega) m.guests.length 0 m.guests rfl (by omega)
 simp only [Int.natCast_zero] at hl
 simp only [qs6,qit,EC.decL_encL,EC.isL_encL,EC.encL_length,qmg,q3a,q3b,q29,q2w,qxe,qxd,qxf,qmi,q3c,q2b,q2y,qxg,qmh,q3g,q2a,q2x,qxl,qmk,q3d,q3e,q2d,q30,qxi,qxh,qxj,qmm,q3l,q3m,q3o,q3p,q3q,q3r,q3s,q3t,q3u,q3v,q3n,q2f,q32,qxt,qxs,qxv,qxw,qxy,qxx,qxz,qy0,qy1,qy3,qy2,qy4,qy5,qxu,qmn,q3w,q3x,q48,q4d,q4e,q4f,q4g,q4h,q4i,q4j,q3y,q3z,q40,q41,q42,q43,q44,q45,q46,q47,q49,q4a,q4b,q4c,q2g,q33,qy7,qy6,qyj,qyo,qyp,qyq,qyr,qys,qyt,qyv,qyu,qyw,qy8,qy9,qya,qyb,qyc,qyd,qyf,qye,qyg,qyh,qyi,qyk,qyl,qym,qyn,qml,q3h,q3i,q3j,q3k,q2e,q31,qxn,qxm,qxo,qxq,qxp,qxr,qmj,q3f,q2c,q2z,qxk,qa1 _ hn,Option.bind_some,if_true,qn]
 rw [hl]
 simp only [Option.bind_some,hw,List.take_zero,List.drop_zero,List.nil_append,EC.decL_encL,EC.isL_encL,EC.encL_length,qmg,q3a,q3b,q29,q2w,qxe,qxd,qxf,qmi,q3c,q2b,q2y,qxg,qmh,q3g,q2a,q2x,qxl,qmk,q3d,q3e,q2d,q30,qxi,qxh,qxj,qmm,q3l,q3m,q3o,q3p,q3q,q3r,q3s,q3t,q3u,q3v,q3n,q2f,q32,qxt,qxs,qxv,qxw,qxy,qxx,qxz,qy0,qy1,qy3,qy2,qy4,qy5,qxu,qmn,q3w,q3x,q48,q4d,q4e,q4f,q4g,q4h,q4i,q4j,q3y,q3z,q40,q41,q42,q43,q44,q45,q46,q47,q49,q4a,q4b,q4c,q2g,q33,qy7,qy6,qyj,qyo,qyp,qyq,qyr,qys,qyt,qyv,qyu,qyw,qy8,qy9,qya,qyb,qyc,qyd,qyf,qye,qyg,qyh,qyi,qyk,qyl,qym,qyn,qml,q3h,q3i,q3j,q3k,q2e,q31,qxn,qxm,qxo,qxq,qxp,qxr,qmj,q3f,q2c,q2z,qxk,if_true])
def runFault (m:Mtg):Int×Int:=if (mtgFault m).1≠0 then mtgFault m else if m.can=true∨m.round=1000000 then (8,-4) else (0,0)
theorem qwm (m:Mtg) (hn:m.guests.length≤9223372036854775807):qsb m.org m.guests m.round m.pf m.pt m.can=some (runFault m):=qsa (by
 simp only [qsc,q77,qit,EC.decL_encL,EC.isL_encL,EC.encL_length,qmg,q3a,q3b,q29,q2w,qxe,qxd,qxf,qmi,q3c,q2b,q2y,qxg,qmh,q3g,q2a,q2x,qxl,qmk,q3d,q3e,q2d,q30,qxi,qxh,qxj,qmm,q3l,q3m,q3o,q3p,q3q,q3r,q3s,q3t,q3u,q3v,q3n,q2f,q32,qxt,qxs,qxv,qxw,qxy,qxx,qxz,qy0,qy1,qy3,qy2,qy4,qy5,qxu,qmn,q3w,q3x,q48,q4d,q4e,q4f,q4g,q4h,q4i,q4j,q3y,q3z,q40,q41,q42,q43,q44,q45,q46,q47,q49,q4a,q4b,q4c,q2g,q33,qy7,qy6,qyj,qyo,qyp,qyq,qyr,qys,qyt,qyv,qyu,qyw,qy8,qy9,qya,qyb,qyc,qyd,qyf,qye,qyg,qyh,qyi,qyk,qyl,qym,qyn,qml,q3h,q3i,q3j,q3k,q2e,q31,qxn,qxm,qxo,qxq,qxp,qxr,qmj,q3f,q2c,q2z,qxk,if_true,q14w m hn,qf6,qf9,qsz,Option.bind_some,q6o,q6n]
 unfold runFault
 by_cases h:(mtgFault m).1=0 <;> cases m.can <;> by_cases h2:m.round=1000000 <;> simp [h,h2])
theorem mtg_ok {m:Mtg} (h:(mtgFault m).1=0):1≤m.guests.length∧m.guests.length≤30∧0≤m.round∧m.round≤1000000:=by
 unfold mtgFault at h
 split at h
 ·cases h
 ·split at h
  ·cases h
  ·split at h
   ·cases h
   ·omega
theorem run_ok {m:Mtg} (h:(runFault m).1=0):(mtgFault m).1=0∧m.can=false∧m.round≠1000000:=by
 unfold runFault at h
 split at h
 ·rename_i h';exact absurd h h'
 ·rename_i h'
  split at h
  ·cases h
  ·rename_i h2
   refine ⟨by simpa using h',?_,?_⟩
   ·cases hc:m.can with|true=>exact absurd (.inl hc) h2|false=>rfl
   ·intro e;exact h2 (.inr e)
abbrev MR:=(ByteArray×Nat×Int×Int×Int×Bool)×(Int×Int)
def zrow:ByteArray×Nat×Int×Int×Int×Bool:=(⟨#[]⟩,0,0,0,0,false)
def propOf (m:Mtg) (f t:Int):MR×List Gu :=
 if (runFault m).1≠0 then ((zrow,runFault m),[]) else if possB f t=false then ((zrow,(3,-5)),[]) else (((m.org,m.guests.length,m.round+1,f,t,m.can),(0,0)),m.guests.map clr)
theorem q11 (m:Mtg) (f t:Int) (hn:m.guests.length≤9223372036854775807):qqw m.org m.guests m.round m.pf m.pt m.can f t=some (propOf m f t):=qqv (by
 simp only [qqx,q77,qit,EC.decL_encL,EC.isL_encL,EC.encL_length,qmg,q3a,q3b,q29,q2w,qxe,qxd,qxf,qmi,q3c,q2b,q2y,qxg,qmh,q3g,q2a,q2x,qxl,qmk,q3d,q3e,q2d,q30,qxi,qxh,qxj,qmm,q3l,q3m,q3o,q3p,q3q,q3r,q3s,q3t,q3u,q3v,q3n,q2f,q32,qxt,qxs,qxv,qxw,qxy,qxx,qxz,qy0,qy1,qy3,qy2,qy4,qy5,qxu,qmn,q3w,q3x,q48,q4d,q4e,q4f,q4g,q4h,q4i,q4j,q3y,q3z,q40,q41,q42,q43,q44,q45,q46,q47,q49,q4a,q4b,q4c,q2g,q33,qy7,qy6,qyj,qyo,qyp,qyq,qyr,qys,qyt,qyv,qyu,qyw,qy8,qy9,qya,qyb,qyc,qyd,qyf,qye,qyg,qyh,qyi,qyk,qyl,qym,qyn,qml,q3h,q3i,q3j,q3k,q2e,q31,qxn,qxm,qxo,qxq,qxp,qxr,qmj,q3f,q2c,q2z,qxk,if_true,qwm m hn,qf6,qf9,qsz,poss_s,Option.bind_some,q6o,q6n,qn]
 unfold propOf
 by_cases h:(runFault m).1=0
 ·obtain ⟨h1,_,_⟩:=run_ok h
  obtain ⟨_,h2,h3,h4⟩:=mtg_ok h1
  rw [quc m f t (by omega) h3 h4]
  cases possB f t <;> simp [h,zrow,EC.decL_encL,EC.isL_encL]
 ·simp [h,zrow])
theorem q2o (g:Gu) (a:ByteArray):q2n g.Address g.Answer g.Offer_From g.Offer_To a=some (g.Address.toList==a.toList):=q2m rfl
theorem q1m (g:Gu):q1l g.Address g.Answer g.Offer_From g.Offer_To=some (g.Answer != 1):=q1k rfl
theorem qlj (l:List Gu) (a:ByteArray) (hn:l.length≤9223372036854775807):∀ (m k:Nat),k+m=l.length →
  (qlb l a l.length k).bind (Sum.elim (fun x=>some x.1) (fun _=>some (-1)))=some (gidx (fun g=>g.Address.toList==a.toList) k (l.drop k)):=by
 intro m
 induction m with
 |zero =>
  intro k hk
  have:k=l.length:=by omega
  subst this
  have h1:qlb l a l.length l.length=some (.inr ((l,a,(l.length:Int),(l.length:Int),false),())):=qld (by
   simp only [qli,q77,qit,EC.decL_encL,EC.isL_encL,EC.encL_length,qmg,q3a,q3b,q29,q2w,qxe,qxd,qxf,qmi,q3c,q2b,q2y,qxg,qmh,q3g,q2a,q2x,qxl,qmk,q3d,q3e,q2d,q30,qxi,qxh,qxj,qmm,q3l,q3m,q3o,q3p,q3q,q3r,q3s,q3t,q3u,q3v,q3n,q2f,q32,qxt,qxs,qxv,qxw,qxy,qxx,qxz,qy0,qy1,qy3,qy2,qy4,qy5,qxu,qmn,q3w,q3x,q48,q4d,q4e,q4f,q4g,q4h,q4i,q4j,q3y,q3z,q40,q41,q42,q43,q44,q45,q46,q47,q49,q4a,q4b,q4c,q2g,q33,qy7,qy6,qyj,qyo,qyp,qyq,qyr,qys,qyt,qyv,qyu,qyw,qy8,qy9,qya,qyb,qyc,qyd,qyf,qye,qyg,qyh,qyi,qyk,qyl,qym,qyn,qml,q3h,q3i,q3j,q3k,q2e,q31,qxn,qxm,qxo,qxq,qxp,qxr,qmj,q3f,q2c,q2z,qxk]
   simp)
  rw [h1]
  simp [gidx]
 |succ m ih =>
  intro k hk
  have hlt:k<l.length:=by omega
  rw [qcv hlt,gidx]
  have hk':(k:Int)<(l.length:Int):=by omega
  by_cases hp:(l[k].Address.toList==a.toList)=true
  ·have h1:qlb l a l.length k=some (.inl ((k:Int),())):=qld (by
    simp only [qli,q77,qit,EC.decL_encL,EC.isL_encL,EC.encL_length,qmg,q3a,q3b,q29,q2w,qxe,qxd,qxf,qmi,q3c,q2b,q2y,qxg,qmh,q3g,q2a,q2x,qxl,qmk,q3d,q3e,q2d,q30,qxi,qxh,qxj,qmm,q3l,q3m,q3o,q3p,q3q,q3r,q3s,q3t,q3u,q3v,q3n,q2f,q32,qxt,qxs,qxv,qxw,qxy,qxx,qxz,qy0,qy1,qy3,qy2,qy4,qy5,qxu,qmn,q3w,q3x,q48,q4d,q4e,q4f,q4g,q4h,q4i,q4j,q3y,q3z,q40,q41,q42,q43,q44,q45,q46,q47,q49,q4a,q4b,q4c,q2g,q33,qy7,qy6,qyj,qyo,qyp,qyq,qyr,qys,qyt,qyv,qyu,qyw,qy8,qy9,qya,qyb,qyc,qyd,qyf,qye,qyg,qyh,qyi,qyk,qyl,qym,qyn,qml,q3h,q3i,q3j,q3k,q2e,q31,qxn,qxm,qxo,qxq,qxp,qxr,qmj,q3f,q2c,q2z,qxk,Int.toNat_natCast,qiw hlt,q2o,Option.bind_some,hp]
    simp [hlt])
   rw [h1,if_pos hp]
   rfl
  ·have h2:=ih (k+1) (by omega)
   cases hz:qlb l a l.length ((k+1:Nat):Int) with
   |none=>rw [hz] at h2;cases h2
   |some r =>
    have h1:qlb l a l.length k=some r:=qld (by
     simp only [qli,q77,qit,EC.decL_encL,EC.isL_encL,EC.encL_length,qmg,q3a,q3b,q29,q2w,qxe,qxd,qxf,qmi,q3c,q2b,q2y,qxg,qmh,q3g,q2a,q2x,qxl,qmk,q3d,q3e,q2d,q30,qxi,qxh,qxj,qmm,q3l,q3m,q3o,q3p,q3q,q3r,q3s,q3t,q3u,q3v,q3n,q2f,q32,qxt,qxs,qxv,qxw,qxy,qxx,qxz,qy0,qy1,qy3,qy2,qy4,qy5,qxu,qmn,q3w,q3x,q48,q4d,q4e,q4f,q4g,q4h,q4i,q4j,q3y,q3z,q40,q41,q42,q43,q44,q45,q46,q47,q49,q4a,q4b,q4c,q2g,q33,qy7,qy6,qyj,qyo,qyp,qyq,qyr,qys,qyt,qyv,qyu,qyw,qy8,qy9,qya,qyb,qyc,qyd,qyf,qye,qyg,qyh,qyi,qyk,qyl,qym,qyn,qml,q3h,q3i,q3j,q3k,q2e,q31,qxn,qxm,qxo,qxq,qxp,qxr,qmj,q3f,q2c,q2z,qxk,Int.toNat_natCast,qiw hlt,q2o,Option.bind_some,hp,q15g hlt hn,hz]
     simp [hlt])
    rw [if_neg hp,h1]
    rw [hz] at h2
    exact h2
theorem qll (l:List Gu) (a:ByteArray) (hn:l.length≤9223372036854775807):qlk l a=some (gidx (fun g=>g.Address.toList==a.toList) 0 l):=qla (by
 have:=qlj l a hn l.length 0 (by omega)
 simp only [qlm,qit,EC.decL_encL,EC.isL_encL,EC.encL_length,qmg,q3a,q3b,q29,q2w,qxe,qxd,qxf,qmi,q3c,q2b,q2y,qxg,qmh,q3g,q2a,q2x,qxl,qmk,q3d,q3e,q2d,q30,qxi,qxh,qxj,qmm,q3l,q3m,q3o,q3p,q3q,q3r,q3s,q3t,q3u,q3v,q3n,q2f,q32,qxt,qxs,qxv,qxw,qxy,qxx,qxz,qy0,qy1,qy3,qy2,qy4,qy5,qxu,qmn,q3w,q3x,q48,q4d,q4e,q4f,q4g,q4h,q4i,q4j,q3y,q3z,q40,q41,q42,q43,q44,q45,q46,q47,q49,q4a,q4b,q4c,q2g,q33,qy7,qy6,qyj,qyo,qyp,qyq,qyr,qys,qyt,qyv,qyu,qyw,qy8,qy9,qya,qyb,qyc,qyd,qyf,qye,qyg,qyh,qyi,qyk,qyl,qym,qyn,qml,q3h,q3i,q3j,q3k,q2e,q31,qxn,qxm,qxo,qxq,qxp,qxr,qmj,q3f,q2c,q2z,qxk,if_true]
 exact this)
theorem ql4 (l:List Gu) (hn:l.length≤9223372036854775807):∀ (m k:Nat),k+m=l.length →
  (qkw l l.length k).bind (Sum.elim (fun x=>some x.1) (fun _=>some (-1)))=some (gidx (fun g=>g.Answer != 1) k (l.drop k)):=by
 intro m
 induction m with
 |zero =>
  intro k hk
  have:k=l.length:=by omega
  subst this
  have h1:qkw l l.length l.length=some (.inr ((l,(),(l.length:Int),(l.length:Int),false),())):=qky (by
   simp only [ql3,q77,qit,EC.decL_encL,EC.isL_encL,EC.encL_length,qmg,q3a,q3b,q29,q2w,qxe,qxd,qxf,qmi,q3c,q2b,q2y,qxg,qmh,q3g,q2a,q2x,qxl,qmk,q3d,q3e,q2d,q30,qxi,qxh,qxj,qmm,q3l,q3m,q3o,q3p,q3q,q3r,q3s,q3t,q3u,q3v,q3n,q2f,q32,qxt,qxs,qxv,qxw,qxy,qxx,qxz,qy0,qy1,qy3,qy2,qy4,qy5,qxu,qmn,q3w,q3x,q48,q4d,q4e,q4f,q4g,q4h,q4i,q4j,q3y,q3z,q40,q41,q42,q43,q44,q45,q46,q47,q49,q4a,q4b,q4c,q2g,q33,qy7,qy6,qyj,qyo,qyp,qyq,qyr,qys,qyt,qyv,qyu,qyw,qy8,qy9,qya,qyb,qyc,qyd,qyf,qye,qyg,qyh,qyi,qyk,qyl,qym,qyn,qml,q3h,q3i,q3j,q3k,q2e,q31,qxn,qxm,qxo,qxq,qxp,qxr,qmj,q3f,q2c,q2z,qxk]
   simp)
  rw [h1]
  simp [gidx]
 |succ m ih =>
  intro k hk
  have hlt:k<l.length:=by omega
  rw [qcv hlt,gidx]
  have hk':(k:Int)<(l.length:Int):=by omega
  by_cases hp:(l[k].Answer != 1)=true
  ·have h1:qkw l l.length k=some (.inl ((k:Int),())):=qky (by
    simp only [ql3,q77,qit,EC.decL_encL,EC.isL_encL,EC.encL_length,qmg,q3a,q3b,q29,q2w,qxe,qxd,qxf,qmi,q3c,q2b,q2y,qxg,qmh,q3g,q2a,q2x,qxl,qmk,q3d,q3e,q2d,q30,qxi,qxh,qxj,qmm,q3l,q3m,q3o,q3p,q3q,q3r,q3s,q3t,q3u,q3v,q3n,q2f,q32,qxt,qxs,qxv,qxw,qxy,qxx,qxz,qy0,qy1,qy3,qy2,qy4,qy5,qxu,qmn,q3w,q3x,q48,q4d,q4e,q4f,q4g,q4h,q4i,q4j,q3y,q3z,q40,q41,q42,q43,q44,q45,q46,q47,q49,q4a,q4b,q4c,q2g,q33,qy7,qy6,qyj,qyo,qyp,qyq,qyr,qys,qyt,qyv,qyu,qyw,qy8,qy9,qya,qyb,qyc,qyd,qyf,qye,qyg,qyh,qyi,qyk,qyl,qym,qyn,qml,q3h,q3i,q3j,q3k,q2e,q31,qxn,qxm,qxo,qxq,qxp,qxr,qmj,q3f,q2c,q2z,qxk,Int.toNat_natCast,qiw hlt,q1m,Option.bind_some,hp]
    simp [hlt])
   rw [h1,if_pos hp]
   rfl
  ·have h2:=ih (k+1) (by omega)
   cases hz:qkw l l.length ((k+1:Nat):Int) with
   |none=>rw [hz] at h2;cases h2
   |some r =>
    have h1:qkw l l.length k=some r:=qky (by
     simp only [ql3,q77,qit,EC.decL_encL,EC.isL_encL,EC.encL_length,qmg,q3a,q3b,q29,q2w,qxe,qxd,qxf,qmi,q3c,q2b,q2y,qxg,qmh,q3g,q2a,q2x,qxl,qmk,q3d,q3e,q2d,q30,qxi,qxh,qxj,qmm,q3l,q3m,q3o,q3p,q3q,q3r,q3s,q3t,q3u,q3v,q3n,q2f,q32,qxt,qxs,qxv,qxw,qxy,qxx,qxz,qy0,qy1,qy3,qy2,qy4,qy5,qxu,qmn,q3w,q3x,q48,q4d,q4e,q4f,q4g,q4h,q4i,q4j,q3y,q3z,q40,q41,q42,q43,q44,q45,q46,q47,q49,q4a,q4b,q4c,q2g,q33,qy7,qy6,qyj,qyo,qyp,qyq,qyr,qys,qyt,qyv,qyu,qyw,qy8,qy9,qya,qyb,qyc,qyd,qyf,qye,qyg,qyh,qyi,qyk,qyl,qym,qyn,qml,q3h,q3i,q3j,q3k,q2e,q31,qxn,qxm,qxo,qxq,qxp,qxr,qmj,q3f,q2c,q2z,qxk,Int.toNat_natCast,qiw hlt,q1m,Option.bind_some,hp,q15g hlt hn,hz]
     simp [hlt])
    rw [if_neg hp,h1]
    rw [hz] at h2
    exact h2
theorem qjz (l:List Gu) (hn:l.length≤9223372036854775807):qjy l=some (decide (0≤gidx (fun g=>g.Answer != 1) 0 l)):=qjx (by
 have h:=ql4 l hn l.length 0 (by omega)
 have h1:ql5 l=some (gidx (fun g=>g.Answer != 1) 0 l):=qkv (by
  simp only [ql6,qit,EC.decL_encL,EC.isL_encL,EC.encL_length,qmg,q3a,q3b,q29,q2w,qxe,qxd,qxf,qmi,q3c,q2b,q2y,qxg,qmh,q3g,q2a,q2x,qxl,qmk,q3d,q3e,q2d,q30,qxi,qxh,qxj,qmm,q3l,q3m,q3o,q3p,q3q,q3r,q3s,q3t,q3u,q3v,q3n,q2f,q32,qxt,qxs,qxv,qxw,qxy,qxx,qxz,qy0,qy1,qy3,qy2,qy4,qy5,qxu,qmn,q3w,q3x,q48,q4d,q4e,q4f,q4g,q4h,q4i,q4j,q3y,q3z,q40,q41,q42,q43,q44,q45,q46,q47,q49,q4a,q4b,q4c,q2g,q33,qy7,qy6,qyj,qyo,qyp,qyq,qyr,qys,qyt,qyv,qyu,qyw,qy8,qy9,qya,qyb,qyc,qyd,qyf,qye,qyg,qyh,qyi,qyk,qyl,qym,qyn,qml,q3h,q3i,q3j,q3k,q2e,q31,qxn,qxm,qxo,qxq,qxp,qxr,qmj,q3f,q2c,q2z,qxk,if_true]
  exact h)
 simp only [qk0,qit,EC.decL_encL,EC.isL_encL,EC.encL_length,qmg,q3a,q3b,q29,q2w,qxe,qxd,qxf,qmi,q3c,q2b,q2y,qxg,qmh,q3g,q2a,q2x,qxl,qmk,q3d,q3e,q2d,q30,qxi,qxh,qxj,qmm,q3l,q3m,q3o,q3p,q3q,q3r,q3s,q3t,q3u,q3v,q3n,q2f,q32,qxt,qxs,qxv,qxw,qxy,qxx,qxz,qy0,qy1,qy3,qy2,qy4,qy5,qxu,qmn,q3w,q3x,q48,q4d,q4e,q4f,q4g,q4h,q4i,q4j,q3y,q3z,q40,q41,q42,q43,q44,q45,q46,q47,q49,q4a,q4b,q4c,q2g,q33,qy7,qy6,qyj,qyo,qyp,qyq,qyr,qys,qyt,qyv,qyu,qyw,qy8,qy9,qya,qyb,qyc,qyd,qyf,qye,qyg,qyh,qyi,qyk,qyl,qym,qyn,qml,q3h,q3i,q3j,q3k,q2e,q31,qxn,qxm,qxo,qxq,qxp,qxr,qmj,q3f,q2c,q2z,qxk,if_true,h1,Option.bind_some,ge_iff_le])
def agRes (m:Mtg):Bool×(Int×Int):=if (mtgFault m).1=0 then (!m.can&&(decide (0<m.round)&&!decide (0≤gidx (fun g=>g.Answer != 1) 0 m.guests)),(0,0)) else (false,mtgFault m)
theorem qa (m:Mtg) (hn:m.guests.length≤9223372036854775807):qq6 m.org m.guests m.round m.pf m.pt m.can=some (agRes m):=qq5 (by
 simp only [qq7,q77,qit,EC.decL_encL,EC.isL_encL,EC.encL_length,qmg,q3a,q3b,q29,q2w,qxe,qxd,qxf,qmi,q3c,q2b,q2y,qxg,qmh,q3g,q2a,q2x,qxl,qmk,q3d,q3e,q2d,q30,qxi,qxh,qxj,qmm,q3l,q3m,q3o,q3p,q3q,q3r,q3s,q3t,q3u,q3v,q3n,q2f,q32,qxt,qxs,qxv,qxw,qxy,qxx,qxz,qy0,qy1,qy3,qy2,qy4,qy5,qxu,qmn,q3w,q3x,q48,q4d,q4e,q4f,q4g,q4h,q4i,q4j,q3y,q3z,q40,q41,q42,q43,q44,q45,q46,q47,q49,q4a,q4b,q4c,q2g,q33,qy7,qy6,qyj,qyo,qyp,qyq,qyr,qys,qyt,qyv,qyu,qyw,qy8,qy9,qya,qyb,qyc,qyd,qyf,qye,qyg,qyh,qyi,qyk,qyl,qym,qyn,qml,q3h,q3i,q3j,q3k,q2e,q31,qxn,qxm,qxo,qxq,qxp,qxr,qmj,q3f,q2c,q2z,qxk,if_true,q14w m hn,qf6,qsz,qjz m.guests hn,Option.bind_some,q6o,q6n]
 unfold agRes
 by_cases h:(mtgFault m).1=0 <;> cases m.can <;> by_cases h2:0<m.round <;> simp [h,h2])
theorem Agreed' (o:ByteArray) (l:List Gu) (r f t:Int) (c:Bool) (hn:l.length≤9223372036854775807):qq6 o l r f t c=some (agRes ⟨o,l,r,f,t,c⟩):=qa ⟨o,l,r,f,t,c⟩ hn
theorem Propose' (o:ByteArray) (l:List Gu) (r f t:Int) (c:Bool) (x y:Int) (hn:l.length≤9223372036854775807):qqw o l r f t c x y=some (propOf ⟨o,l,r,f,t,c⟩ x y):=q11 ⟨o,l,r,f,t,c⟩ x y hn
theorem q14 (m:Mtg) (who:ByteArray) (x y:Int) (j:Nat) (hf:(mtgFault m).1=0) (hc:m.can=false) (hr:m.round≠0) (hj:gidx (fun g=>g.Address.toList==who.toList) 0 m.guests=j) (hlt:j<m.guests.length) :
  qqc m.org m.guests m.round m.pf m.pt m.can who 1 x y=some (((m.org,m.guests.length,m.round,m.pf,m.pt,m.can),(0,0)),m.guests.set j ⟨m.guests[j].Address,1,0,0⟩):=qqb (by
 obtain ⟨_,h2,_,_⟩:=mtg_ok hf
 have hj':(j:Int)<(m.guests.length:Int):=by omega
 have hr':(m.round==0)=false:=by simpa using hr
 have hv:=q14w m (by omega)
 rw [hc] at hv
 have hneg:¬ ((j:Int)<0):=by omega
 simp only [qqd,q77,qit,EC.decL_encL,EC.isL_encL,EC.encL_length,qmg,q3a,q3b,q29,q2w,qxe,qxd,qxf,qmi,q3c,q2b,q2y,qxg,qmh,q3g,q2a,q2x,qxl,qmk,q3d,q3e,q2d,q30,qxi,qxh,qxj,qmm,q3l,q3m,q3o,q3p,q3q,q3r,q3s,q3t,q3u,q3v,q3n,q2f,q32,qxt,qxs,qxv,qxw,qxy,qxx,qxz,qy0,qy1,qy3,qy2,qy4,qy5,qxu,qmn,q3w,q3x,q48,q4d,q4e,q4f,q4g,q4h,q4i,q4j,q3y,q3z,q40,q41,q42,q43,q44,q45,q46,q47,q49,q4a,q4b,q4c,q2g,q33,qy7,qy6,qyj,qyo,qyp,qyq,qyr,qys,qyt,qyv,qyu,qyw,qy8,qy9,qya,qyb,qyc,qyd,qyf,qye,qyg,qyh,qyi,qyk,qyl,qym,qyn,qml,q3h,q3i,q3j,q3k,q2e,q31,qxn,qxm,qxo,qxq,qxp,qxr,qmj,q3f,q2c,q2z,qxk,lenb_g,if_true,hc,hv,qf6,qsz,qll _ _ (by omega:m.guests.length≤9223372036854775807),qa1 m.guests (by omega),Option.bind_some,q6o,q6n,hf,hr',hj,Int.toNat_natCast,List.length_set,bne_self_eq_false,Bool.false_eq_true,if_false,Bool.not_false]
 simp [hlt,hneg,List.set_set,List.getD_eq_getElem?_getD])
end Go.Proofs.YtfakibajjibjjaaGreatDoor
