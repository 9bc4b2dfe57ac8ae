/- How the parser takes signs, numbers, patterns. -/
import Derived.Test.YtmlcmoaonaomfaaGreatDoorZ42
namespace Go.Proofs.YtmlcmoaonaomfaaGreatDoor
set_option linter.unusedSimpArgs false
open Go.RowKit
theorem nvL_eq (s:List UInt8):nvL s=numV s:=rfl
section
variable {b:BA} (hb:b.size<=4000)
include hb
theorem qt5 {n:Nat} {x:Tok} {R:List Tok} (h:At b n x R) {w:List UInt8} (ht:isT 4 w (x::R)=true) (r d ts:Int) :
  ∃ m y R',R=y::R'/\At b m y R'/\q11z (baL w) b (n:Int) (x.k:Int) (x.o:Int) (baL x.s) false r d ts=some ((),((),stP b m y false r d ts)):=by
 obtain ⟨m,y,R',g1,g2,g3⟩:=qov hb h (k:=4) rfl ht r d ts
 have g3:q10z 4 (baL w) b (n:Int) (x.k:Int) (x.o:Int) (baL x.s) false r d ts=_:=g3
 refine ⟨m,y,R',g1,g2,q121 ?_⟩
 simp only [q125,q85,g3,x0q,x15q,x1q,x21q]
omit hb
theorem qt4 {n:Nat} {x:Tok} {R:List Tok} {w:List UInt8} (ht:isT 4 w (x::R)=false) (r d ts:Int) :
  q11z (baL w) b (n:Int) (x.k:Int) (x.o:Int) (baL x.s) false r d ts=some ((),((),stP b n x true r d ts)):=by
 have g3:=is_no (b:=b) (n:=n) ht r d ts
 have g3:q10z 4 (baL w) b (n:Int) (x.k:Int) (x.o:Int) (baL x.s) false r d ts=_:=g3
 refine q121 ?_
 simp only [q125,q85,g3,x0q,x11q,x20q]
theorem qt3 (w:BA) (b:BA) (a c o:Int) (s:BA) (r d ts:Int):q11z w b a c o s true r d ts=some ((),((),(b,a,c,o,s,true,r,d,ts))):=by
 refine q121 ?_
 simp only [q125,q85,qou,x0q,x11q,x20q]
theorem qtn (s:List UInt8) (hs:s.length<=4000):∃ v ok,numP (baL s) 9999999=some (v,ok):=by
 unfold numP
 rw [if_pos ⟨by rw [q57];omega,by omega⟩]
 split
 ·exact ⟨_,_,rfl⟩
 ·exact ⟨_,_,rfl⟩
theorem qto {s:List UInt8} (hs:s.length<=4000) (h:numS s):numP (baL s) 9999999=some (if numOk s=true then (((numV s:Nat):Int),true) else (0,false)):=by
 unfold numP
 rw [if_pos ⟨by rw [q57];omega,by omega⟩,q56,nvL_eq]
 congr 1
 have:=num_ok h
 by_cases h1:numOk s=true
 ·have h2:=this.2 h1
  rw [if_pos h1,if_pos ⟨h2.1,by omega⟩]
 ·rw [if_neg h1,if_neg (λh2=>h1 (this.1 ⟨h2.1,by omega⟩))]
include hb
theorem num_s {n:Nat} {x:Tok} {R:List Tok} (h:At b n x R) (r d ts:Int) :
  match sNum (x::R) with
  |.inr y=>∃ m z R',y.2=z::R'/\At b m z R'/\q126 b (n:Int) (x.k:Int) (x.o:Int) (baL x.s) false r d ts=some ((y.1:Int),((y.1:Int),stP b m z false r d ts))
  |.inl o=>o=x.o/\q126 b (n:Int) (x.k:Int) (x.o:Int) (baL x.s) false r d ts=some (0,(0,stP b n x true r d ts)):=by
 have hs:=h.2.2.2.1
 simp only [sNum]
 by_cases hk:x.k=3
 ·have hn:=h.2.2.1 hk
  have e:((((x.k:Nat):Int) != 3)==false)=true:=by simp [hk]
  have hp:=qto hs hn
  by_cases ho:numOk x.s=true
  ·rw [if_pos ho] at hp
   rw [if_pos ⟨hk,ho⟩]
   obtain ⟨m,z,R',g1,g2,g3⟩:=q1d1 hb h (k:=3) rfl hk r d ts
   have g3:q13d 3 b (n:Int) (x.k:Int) (x.o:Int) (baL x.s) false r d ts=_:=g3
   refine ⟨m,z,R',g1,g2,q128 ?_⟩
   simp only [q12c,q85,hp,x0q,e,x20q,x15q,x1q,x21q,g3]
  ·rw [if_neg ho] at hp
   rw [if_neg (λe=>ho e.2)]
   refine ⟨rfl,q128 ?_⟩
   simp only [q12c,q85,hp,x0q,e,x20q,x11q]
 ·obtain ⟨v,ok,hp⟩:=qtn x.s hs
  rw [if_neg (λe=>hk e.1)]
  have e:((((x.k:Nat):Int) != 3)==false)=false:=by simp;omega
  refine ⟨rfl,q128 ?_⟩
  simp only [q12c,q85,hp,x0q,e,x1q,x21q]
end
theorem qrq:qz7=some (baL wIs,(baL wContains,baL wLike)):=qz6 rfl
section
variable (b:BA) (k1:Int) (nt:Nat) (nm:BA) (pz0:Int) (tx0:BA) (n0:Int) (T:List S35)
abbrev mR (st:Pst) (p:Int) (tx:BA):Unit×(Unit×(Pst×(Int×Nat×BA×Int×BA×Int)×List S35)):=((),((),(st,((k1,(nt,(nm,(p,(tx,n0))))),T))))
abbrev L1o:=((Unit×(Pst×(Int×Nat×BA×Int×BA×Int)×(List S35)))⊕((Unit×Unit×(BA×BA×BA)×Int×Bool)×(Pst×(Int×Nat×BA×Int×BA×Int)×(List S35))))
theorem ml_3 (a c o:Int) (s:BA) (bd:Bool) (r d ts:Int):q11n (baL wIs) (baL wContains) (baL wLike) 3 b a c o s bd r d ts k1 nt nm pz0 tx0 n0 T=some (.inr (((),((),((baL wIs,(baL wContains,baL wLike)),(3,false)))),((b,a,c,o,s,bd,r,d,ts),((k1,(nt,(nm,(pz0,(tx0,n0))))),T)))):=by
 refine q11p ?_
 simp only [q11u,gL,dL,wI,p0,q85,qk3,x25q,x26q,x27q,qol,q4x,q3k,q43,q164,qoo,q52,q3n,q46,q16b,qom,q4y,q4z,q3l,q44,q166,q165,q167,qon,q50,q51,q3m,q45,q169,q168,q16a,qoh,q4c,q4d,q4e,q4f,q4g,q4h,q3g,q3z,q15h,q15g,q15i,q15j,q15k,q15l,q15m,qoj,q4j,q4k,q4o,q4p,q4q,q4r,q4s,q4t,q4u,q4v,q4l,q4m,q4n,q3i,q41,q15p,q15o,q15u,q15t,q15v,q15w,q15x,q15y,q15z,q160,q161,q162,q15q,q15r,q15s,qoi,q4i,q3h,q40,q15n,show ¬ (3:Int)<3 by omega,decide_false,x1q,x21q,x20q]
theorem qsv {k:Nat} (hk:k<3) {a c o:Int} {s:BA} {bd:Bool} {r d ts:Int} {w:List UInt8} (hw:[baL wIs,baL wContains,baL wLike].getD k ByteArray.empty=baL w)
  (hi:q10z 2 (baL w) b a c o s bd r d ts=some (false,(false,(b,a,c,o,s,bd,r,d,ts)))) {z:L1o}
  (hn:q11n (baL wIs) (baL wContains) (baL wLike) ((k+1:Nat):Int) b a c o s bd r d ts k1 nt nm pz0 tx0 n0 T=some z) :
  q11n (baL wIs) (baL wContains) (baL wLike) (k:Int) b a c o s bd r d ts k1 nt nm pz0 tx0 n0 T=some z:=by
 have w1:IntKind.i64.wrap ((k:Int)+1)=((k+1:Nat):Int):=q1et (n:=10) (by omega) (by omega)
 refine q11p ?_
 simp only [q11u,gL,dL,wI,p0,q85,qk3,x25q,x26q,x27q,qol,q4x,q3k,q43,q164,qoo,q52,q3n,q46,q16b,qom,q4y,q4z,q3l,q44,q166,q165,q167,qon,q50,q51,q3m,q45,q169,q168,q16a,qoh,q4c,q4d,q4e,q4f,q4g,q4h,q3g,q3z,q15h,q15g,q15i,q15j,q15k,q15l,q15m,qoj,q4j,q4k,q4o,q4p,q4q,q4r,q4s,q4t,q4u,q4v,q4l,q4m,q4n,q3i,q41,q15p,q15o,q15u,q15t,q15v,q15w,q15x,q15y,q15z,q160,q161,q162,q15q,q15r,q15s,qoi,q4i,q3h,q40,q15n,show (k:Int)<3 by omega,show (k:Int)<((3:Nat):Int) by omega,show (0:Int)<=(k:Int) by omega,decide_true,x3q,x9q,x8q,x13q,Nat.reduceAdd,hk,x4q,x20q,hw,hi,x0q,x1q,x21q,w1,hn]
theorem ml_yes {k:Nat} (hk:k<3) {a c o:Int} {s:BA} {bd:Bool} {r d ts:Int} {w:List UInt8} (hw:[baL wIs,baL wContains,baL wLike].getD k ByteArray.empty=baL w)
  {a' c' o':Int} {s':BA} {bd':Bool} {r' d' ts':Int} (hi:q10z 2 (baL w) b a c o s bd r d ts=some (true,(true,(b,a',c',o',s',bd',r',d',ts'))))
  {v:BA} {st:Pst} (ht:q13d 1 b a' c' o' s' bd' r' d' ts'=some (v,(v,st))) :
  q11n (baL wIs) (baL wContains) (baL wLike) (k:Int) b a c o s bd r d ts k1 nt nm pz0 tx0 n0 T=some (.inl ((),(st,((k1,(nt,(nm,(((k+1:Nat):Int),(v,n0))))),T)))):=by
 have w1:IntKind.i64.wrap ((k:Int)+1)=((k+1:Nat):Int):=q1et (n:=10) (by omega) (by omega)
 refine q11p ?_
 simp only [q11u,gL,dL,wI,p0,q85,qk3,x25q,x26q,x27q,qol,q4x,q3k,q43,q164,qoo,q52,q3n,q46,q16b,qom,q4y,q4z,q3l,q44,q166,q165,q167,qon,q50,q51,q3m,q45,q169,q168,q16a,qoh,q4c,q4d,q4e,q4f,q4g,q4h,q3g,q3z,q15h,q15g,q15i,q15j,q15k,q15l,q15m,qoj,q4j,q4k,q4o,q4p,q4q,q4r,q4s,q4t,q4u,q4v,q4l,q4m,q4n,q3i,q41,q15p,q15o,q15u,q15t,q15v,q15w,q15x,q15y,q15z,q160,q161,q162,q15q,q15r,q15s,qoi,q4i,q3h,q40,q15n,show (k:Int)<3 by omega,show (k:Int)<((3:Nat):Int) by omega,show (0:Int)<=(k:Int) by omega,decide_true,x3q,x9q,x8q,x13q,Nat.reduceAdd,hk,x4q,x20q,hw,hi,x0q,w1,ht]
theorem qro {a c o:Int} {s:BA} {bd:Bool} {r d ts:Int} {st:Pst} {p:Int} {tx:BA} (h:q11n (baL wIs) (baL wContains) (baL wLike) 0 b a c o s bd r d ts k1 nt nm pz0 tx0 n0 T=some (.inl ((),(st,((k1,(nt,(nm,(p,(tx,n0))))),T))))) :
  q11k b a c o s bd r d ts k1 nt nm pz0 tx0 n0 T=some (mR k1 nt nm n0 T st p tx):=by
 refine q11m ?_
 simp only [q11y,gL,dL,q85,qk3,x25q,x26q,x27q,qol,q4x,q3k,q43,q164,qoo,q52,q3n,q46,q16b,qom,q4y,q4z,q3l,q44,q166,q165,q167,qon,q50,q51,q3m,q45,q169,q168,q16a,qoh,q4c,q4d,q4e,q4f,q4g,q4h,q3g,q3z,q15h,q15g,q15i,q15j,q15k,q15l,q15m,qoj,q4j,q4k,q4o,q4p,q4q,q4r,q4s,q4t,q4u,q4v,q4l,q4m,q4n,q3i,q41,q15p,q15o,q15u,q15t,q15v,q15w,q15x,q15y,q15z,q160,q161,q162,q15q,q15r,q15s,qoi,q4i,q3h,q40,q15n,qrq,x0q,x20q,h,Sum.elim_inl]
theorem qrp {a c o:Int} {s:BA} {bd:Bool} {r d ts:Int} (h:q11n (baL wIs) (baL wContains) (baL wLike) 0 b a c o s bd r d ts k1 nt nm pz0 tx0 n0 T=some (.inr (((),((),((baL wIs,(baL wContains,baL wLike)),(3,false)))),((b,a,c,o,s,bd,r,d,ts),((k1,(nt,(nm,(pz0,(tx0,n0))))),T))))) :
  q11k b a c o s bd r d ts k1 nt nm pz0 tx0 n0 T=some (mR k1 nt nm n0 T (b,a,c,o,s,true,r,d,ts) pz0 tx0):=by
 refine q11m ?_
 simp only [q11y,gL,dL,q85,qk3,x25q,x26q,x27q,qol,q4x,q3k,q43,q164,qoo,q52,q3n,q46,q16b,qom,q4y,q4z,q3l,q44,q166,q165,q167,qon,q50,q51,q3m,q45,q169,q168,q16a,qoh,q4c,q4d,q4e,q4f,q4g,q4h,q3g,q3z,q15h,q15g,q15i,q15j,q15k,q15l,q15m,qoj,q4j,q4k,q4o,q4p,q4q,q4r,q4s,q4t,q4u,q4v,q4l,q4m,q4n,q3i,q41,q15p,q15o,q15u,q15t,q15v,q15w,q15x,q15y,q15z,q160,q161,q162,q15q,q15r,q15s,qoi,q4i,q3h,q40,q15n,qrq,x0q,x20q,h,Sum.elim_inr]
theorem qrn (a c o:Int) (s:BA) (r d ts:Int):q11k b a c o s true r d ts k1 nt nm pz0 tx0 n0 T=some (mR k1 nt nm n0 T (b,a,c,o,s,true,r,d,ts) pz0 tx0) :=
 qrp b k1 nt nm pz0 tx0 n0 T (qsv b k1 nt nm pz0 tx0 n0 T (k:=0) (by omega) (w:=wIs) rfl (qou _ _ _ _ _ _ _ _ _ _) (qsv b k1 nt nm pz0 tx0 n0 T (k:=1) (by omega) (w:=wContains) rfl (qou _ _ _ _ _ _ _ _ _ _) (qsv b k1 nt nm pz0 tx0 n0 T (k:=2) (by omega) (w:=wLike) rfl (qou _ _ _ _ _ _ _ _ _ _) (ml_3 b k1 nt nm pz0 tx0 n0 T a c o s true r d ts))))
variable {b} (hb:b.size<=4000)
include hb
theorem mat_s {n:Nat} {x:Tok} {R:List Tok} (h:At b n x R) (r d ts:Int) :
  match sMatch (x::R) with
  |.inr y=>∃ m z R',y.2=z::R'/\At b m z R'/\q11k b (n:Int) (x.k:Int) (x.o:Int) (baL x.s) false r d ts k1 nt nm pz0 tx0 n0 T=some (mR k1 nt nm n0 T (stP b m z false r d ts) ((y.1.1:Nat):Int) (baL y.1.2))
  |.inl o=>∃ m z p tx,o=z.o/\q11k b (n:Int) (x.k:Int) (x.o:Int) (baL x.s) false r d ts k1 nt nm pz0 tx0 n0 T=some (mR k1 nt nm n0 T (stP b m z true r d ts) p tx):=by
 have hi:∀ w:List UInt8,¬ (x.k=2/\x.s=w)->q10z 2 (baL w) b (n:Int) (x.k:Int) (x.o:Int) (baL x.s) false r d ts=some (false,(false,stP b n x false r d ts)):=λw hw =>
  is_no (k:=2) (R:=R) (by simp only [isT,Bool.and_eq_false_iff,beq_eq_false_iff_ne];by_cases e:x.k=2;exact .inr (λe2=>hw ⟨e,e2⟩);exact .inl e) r d ts
 have l3:=ml_3 b k1 nt nm pz0 tx0 n0 T (n:Int) (x.k:Int) (x.o:Int) (baL x.s) false r d ts
 by_cases hk:x.k=2
 case neg =>
  simp only [sMatch]
  rw [if_neg (λe=>hk e.1)]
  exact ⟨n,x,_,_,rfl,qrp b k1 nt nm pz0 tx0 n0 T (qsv b k1 nt nm pz0 tx0 n0 T (k:=0) (by omega) (w:=wIs) rfl (hi _ (λe=>hk e.1)) (qsv b k1 nt nm pz0 tx0 n0 T (k:=1) (by omega) (w:=wContains) rfl (hi _ (λe=>hk e.1)) (qsv b k1 nt nm pz0 tx0 n0 T (k:=2) (by omega) (w:=wLike) rfl (hi _ (λe=>hk e.1)) l3)))⟩
 have key:∀ (k:Nat) (w:List UInt8),x.s=w->matchN w=k+1->(∀ a' c' o' s' bd' r' d' ts' v st,q10z 2 (baL w) b (n:Int) (x.k:Int) (x.o:Int) (baL x.s) false r d ts=some (true,(true,(b,a',c',o',s',bd',r',d',ts')))->q13d 1 b a' c' o' s' bd' r' d' ts'=some (v,(v,st)) ->
   q11k b (n:Int) (x.k:Int) (x.o:Int) (baL x.s) false r d ts k1 nt nm pz0 tx0 n0 T=some (mR k1 nt nm n0 T st ((k+1:Nat):Int) v)) ->
   (match sMatch (x::R) with
   |.inr y=>∃ m z R',y.2=z::R'/\At b m z R'/\q11k b (n:Int) (x.k:Int) (x.o:Int) (baL x.s) false r d ts k1 nt nm pz0 tx0 n0 T=some (mR k1 nt nm n0 T (stP b m z false r d ts) ((y.1.1:Nat):Int) (baL y.1.2))
   |.inl o=>∃ m z p tx,o=z.o/\q11k b (n:Int) (x.k:Int) (x.o:Int) (baL x.s) false r d ts k1 nt nm pz0 tx0 n0 T=some (mR k1 nt nm n0 T (stP b m z true r d ts) p tx)):=by
  intro k w hw hm hgo
  subst hw
  obtain ⟨m,y,R',g1,g2,g3⟩:=qov hb h (k:=2) rfl (w:=x.s) (by simp [isT,hk]) r d ts
  have g3:q10z 2 (baL x.s) b (n:Int) (x.k:Int) (x.o:Int) (baL x.s) false r d ts=_:=g3
  subst g1
  simp only [sMatch,hm,sTake]
  rw [if_pos ⟨hk,by omega⟩]
  by_cases hy:y.k=1
  ·obtain ⟨m2,z,R2,q1,q2,q3⟩:=q1d1 hb g2 (k:=1) rfl hy r d ts
   have q3:q13d 1 b (m:Int) (y.k:Int) (y.o:Int) (baL y.s) false r d ts=_:=q3
   rw [if_pos hy]
   dsimp only [thn]
   exact ⟨m2,z,R2,q1,q2,hgo _ _ _ _ _ _ _ _ _ _ g3 q3⟩
  ·have q3:=q1cz (b:=b) (n:=m) (k:=1) hy r d ts
   have q3:q13d 1 b (m:Int) (y.k:Int) (y.o:Int) (baL y.s) false r d ts=_:=q3
   rw [if_neg hy]
   dsimp only [thn]
   exact ⟨m,y,_,_,rfl,hgo _ _ _ _ _ _ _ _ _ _ g3 q3⟩
 by_cases h1:x.s=wIs
 ·exact key 0 wIs h1 rfl λa' c' o' s' bd' r' d' ts' v st q1 q2=>qro b k1 nt nm pz0 tx0 n0 T (ml_yes b k1 nt nm pz0 tx0 n0 T (k:=0) (by omega) (w:=wIs) rfl q1 q2)
 have i1:=hi wIs (λe=>h1 e.2)
 by_cases h2:x.s=wContains
 ·exact key 1 wContains h2 rfl λa' c' o' s' bd' r' d' ts' v st q1 q2=>qro b k1 nt nm pz0 tx0 n0 T (qsv b k1 nt nm pz0 tx0 n0 T (k:=0) (by omega) (w:=wIs) rfl i1 (ml_yes b k1 nt nm pz0 tx0 n0 T (k:=1) (by omega) (w:=wContains) rfl q1 q2))
 have i2:=hi wContains (λe=>h2 e.2)
 by_cases h3:x.s=wLike
 ·exact key 2 wLike h3 rfl λa' c' o' s' bd' r' d' ts' v st q1 q2=>qro b k1 nt nm pz0 tx0 n0 T (qsv b k1 nt nm pz0 tx0 n0 T (k:=0) (by omega) (w:=wIs) rfl i1 (qsv b k1 nt nm pz0 tx0 n0 T (k:=1) (by omega) (w:=wContains) rfl i2 (ml_yes b k1 nt nm pz0 tx0 n0 T (k:=2) (by omega) (w:=wLike) rfl q1 q2)))
 have i3:=hi wLike (λe=>h3 e.2)
 have hm:matchN x.s=0:=by simp [matchN,h1,h2,h3]
 simp only [sMatch]
 rw [if_neg (λe=>e.2 hm)]
 exact ⟨n,x,_,_,rfl,qrp b k1 nt nm pz0 tx0 n0 T (qsv b k1 nt nm pz0 tx0 n0 T (k:=0) (by omega) (w:=wIs) rfl i1 (qsv b k1 nt nm pz0 tx0 n0 T (k:=1) (by omega) (w:=wContains) rfl i2 (qsv b k1 nt nm pz0 tx0 n0 T (k:=2) (by omega) (w:=wLike) rfl i3 l3)))⟩
end
end Go.Proofs.YtmlcmoaonaomfaaGreatDoor
