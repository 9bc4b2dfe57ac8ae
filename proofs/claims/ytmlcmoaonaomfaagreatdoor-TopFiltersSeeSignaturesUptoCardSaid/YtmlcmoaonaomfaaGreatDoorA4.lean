/- The parser reads a test as specified. -/
import Derived.Test.YtmlcmoaonaomfaaGreatDoorA3
namespace Go.Proofs.YtmlcmoaonaomfaaGreatDoor
set_option linter.unusedSimpArgs false
open Go.RowKit
theorem q1a7 (b:BA) (a c o:Int) (s:BA) (bd:Bool) (r d ts:Int):q13k b a c o s bd r d ts=some ((),((),((),(b,a,c,o,s,bd,r,d,IntKind.i64.wrap (ts - 1))))):=q13m rfl
abbrev tz0:S35:=⟨0,[],noTx,0,noTx,0⟩
theorem q1d5 (b:BA) (a c o:Int) (s:BA) (r d:Int) (ts:Nat) (ht:ts<=100):q13r b a c o s true r d (ts:Int)=some (tup tz0,(tup tz0,(b,a,c,o,s,true,r,d,(ts:Int)))):=by
 have e0:qcu.decL []=[]:=rfl
 have w1:IntKind.i64.wrap ((ts:Int)+1)=((ts+1:Nat):Int):=q1et (n:=1000) (by omega) (by omega)
 have w2:IntKind.i64.wrap (((ts+1:Nat):Int) - 1)=(ts:Int):=by rw [q1es (by omega)];omega
 refine q13t ?_
 simp only [q13x,gL,dL,wI,q85,qk3,qou,x0q,x1q,x21q,q1a7,w1,w2,e0]
 split <;> rfl
theorem qpi (b:BA) (a c o:Int) (s:BA) (r d ts:Int) (W:List S35):q119 W.length b a c o s true r d ts W=some (((),(W.length,false)),((b,a,c,o,s,true,r,d,ts),W)):=by
 refine q11b ?_
 simp only [q11f,gL,dL,aL,dQ,q85,qk3,x25q,x26q,x27q,qol,q4x,q3k,q43,q164,qoo,q52,q3n,q46,q16b,qom,q4y,q4z,q3l,q44,q166,q165,q167,qon,q50,q51,q3m,q45,q169,q168,q16a,qoh,q4c,q4d,q4e,q4f,q4g,q4h,q3g,q3z,q15h,q15g,q15i,q15j,q15k,q15l,q15m,qoj,q4j,q4k,q4o,q4p,q4q,q4r,q4s,q4t,q4u,q4v,q4l,q4m,q4n,q3i,q41,q15p,q15o,q15u,q15t,q15v,q15w,q15x,q15y,q15z,q160,q161,q162,q15q,q15r,q15s,qoi,q4i,q3h,q40,q15n,qou,x0q,x1q,x21q,x20q]
section
variable (b:BA) (hb:b.size<=4000)
def PO (r dd ts:Int) (sp:Nat⊕(S35×List Tok)) (t:S35) (st:Pst):Prop:=match sp with
 |.inr y=>t=y.1/\∃ m z R,y.2=z::R/\At b m z R/\st=stP b m z false r dd ts
 |.inl o=>∃ m z,z.o=o/\st=stP b m z true r dd ts
def POs (r dd ts:Int) (W:List S35) (sp:Nat⊕(List S35×List Tok)) (l:List S35) (st:Pst):Prop:=match sp with
 |.inr y=>l=W++y.1/\∃ m z R,y.2=z::R/\At b m z R/\st=stP b m z false r dd ts
 |.inl o=>∃ m z,z.o=o/\st=stP b m z true r dd ts
def PT (f:Nat):Prop:=∀ (d n:Nat) (x:Tok) (R:List Tok) (r dd:Int),At b n x R->d<=8->2*(x::R).length+1<=f->(x::R).length<=4001 ->
 ∃ t st,q13r b ((n:Nat):Int) ((x.k:Nat):Int) ((x.o:Nat):Int) (baL x.s) false r dd (d:Int)=some (tup t,(tup t,st))/\PO b r dd (d:Int) (sTest f (d+1) (x::R)) t st
def LL (f:Nat):Prop:=∀ (d n:Nat) (x:Tok) (R:List Tok) (r dd:Int) (W:List S35),At b n x R->d<=8->2*(x::R).length+1<=f->W.length+(x::R).length<=4001 ->
 ∃ l st,q119 W.length b ((n:Nat):Int) ((x.k:Nat):Int) ((x.o:Nat):Int) (baL x.s) false r dd (d:Int) W=some (((),(l.length,false)),(st,l)) /\
  (if isT 4 [44] (x::R)=true then POs b r dd (d:Int) W (sTests f (d+1) R) l st else l=W/\st=stP b n x false r dd (d:Int))
def PL (f:Nat):Prop:=∀ (d n:Nat) (x:Tok) (R:List Tok) (r dd:Int),At b n x R->d<=8->2*(x::R).length<=f->(x::R).length<=4001 ->
 ∃ l st,q116 b ((n:Nat):Int) ((x.k:Nat):Int) ((x.o:Nat):Int) (baL x.s) false r dd (d:Int)=some (l,(l,st))/\POs b r dd (d:Int) [] (thn (sNeed [40] (x::R)) λr1=>thn (sTests f (d+1) r1) λy=>thn (sNeed [41] y.2) λr2=>.inr (y.1,r2)) l st
include hb
theorem qqo {f:Nat} (ih:PT b f) (ihl:LL b f):LL b (f+1):=by
 intro d n x R r dd W hA hd hf hl
 simp only [x9q] at hf hl
 cases hc:isT 4 [44] (x::R) with
 |false =>
  have g3:=is_no (b:=b) (n:=n) hc r dd (d:Int)
  have g3:q10z 4 (ByteArray.mk (List.toArray [44])) b ((n:Nat):Int) ((x.k:Nat):Int) ((x.o:Nat):Int) (baL x.s) false r dd (d:Int)=some (false,(false,(b,(((n:Nat):Int),(((x.k:Nat):Int),(((x.o:Nat):Int),(baL x.s,(false,(r,(dd,(d:Int))))))))))):=g3
  refine ⟨W,stP b n x false r dd (d:Int),q11b ?_,?_⟩
  ·simp only [q11f,gL,dL,aL,dQ,q85,qk3,x25q,x26q,x27q,qol,q4x,q3k,q43,q164,qoo,q52,q3n,q46,q16b,qom,q4y,q4z,q3l,q44,q166,q165,q167,qon,q50,q51,q3m,q45,q169,q168,q16a,qoh,q4c,q4d,q4e,q4f,q4g,q4h,q3g,q3z,q15h,q15g,q15i,q15j,q15k,q15l,q15m,qoj,q4j,q4k,q4o,q4p,q4q,q4r,q4s,q4t,q4u,q4v,q4l,q4m,q4n,q3i,q41,q15p,q15o,q15u,q15t,q15v,q15w,q15x,q15y,q15z,q160,q161,q162,q15q,q15r,q15s,qoi,q4i,q3h,q40,q15n,g3,x0q,x1q,x21q,x20q]
  ·rw [if_neg (by simp)];exact ⟨rfl,rfl⟩
 |true =>
  simp only [eq_self,x20q]
  obtain ⟨m,y,R',rfl,g2,g3⟩:=qov hb hA (k:=4) rfl hc r dd (d:Int)
  have g3:q10z 4 (ByteArray.mk (List.toArray [44])) b ((n:Nat):Int) ((x.k:Nat):Int) ((x.o:Nat):Int) (baL x.s) false r dd (d:Int)=some (true,(true,(b,(((m:Nat):Int),(((y.k:Nat):Int),(((y.o:Nat):Int),(baL y.s,(false,(r,(dd,(d:Int))))))))))):=g3
  simp only [x9q] at hf hl
  obtain ⟨t,st,h1,h2⟩:=ih d m y R' r dd g2 hd (by simp only [x9q];omega) (by simp only [x9q];omega)
  have e1:decide ((W.length+1+(W.length+1) / 4+192)*80<=281474976710656)=true:=by simp;omega
  have e2:decide (W.length+1<=9223372036854775807)=true:=by simp;omega
  have eL:(W++[t]).length=W.length+1:=by simp
  have go:∀ z,q119 (W.length+1) st.1 st.2.1 st.2.2.1 st.2.2.2.1 st.2.2.2.2.1 st.2.2.2.2.2.1 st.2.2.2.2.2.2.1 st.2.2.2.2.2.2.2.1 st.2.2.2.2.2.2.2.2 (W++[t])=some z->q119 W.length b ((n:Nat):Int) ((x.k:Nat):Int) ((x.o:Nat):Int) (baL x.s) false r dd (d:Int) W=some z:=λz hz=>by
   refine q11b ?_
   simp only [q11f,gL,dL,aL,dQ,q85,qk3,x25q,x26q,x27q,qol,q4x,q3k,q43,q164,qoo,q52,q3n,q46,q16b,qom,q4y,q4z,q3l,q44,q166,q165,q167,qon,q50,q51,q3m,q45,q169,q168,q16a,qoh,q4c,q4d,q4e,q4f,q4g,q4h,q3g,q3z,q15h,q15g,q15i,q15j,q15k,q15l,q15m,qoj,q4j,q4k,q4o,q4p,q4q,q4r,q4s,q4t,q4u,q4v,q4l,q4m,q4n,q3i,q41,q15p,q15o,q15u,q15t,q15v,q15w,q15x,q15y,q15z,q160,q161,q162,q15q,q15r,q15s,qoi,q4i,q3h,q40,q15n,apd_T,g3,h1,x0q,x20q,x9q,x8q,x13q,e1,e2,x17q,x23q,Bool.and_true,Bool.true_and,x19q,x4q,eta_T,hz]
  unfold sTests
  cases hs:sTest f (d+1) (y::R') with
  |inl o =>
   rw [hs] at h2
   obtain ⟨m2,z,z1,rfl⟩:=h2
   have hd3:=qpi b ((m2:Nat):Int) ((z.k:Nat):Int) ((z.o:Nat):Int) (baL z.s) r dd (d:Int) (W++[t])
   rw [eL] at hd3
   refine ⟨W++[t],stP b m2 z true r dd (d:Int),go _ ?_,m2,z,z1,rfl⟩
   rw [eL]
   exact hd3
  |inr q =>
   have hlen:=qqf hs
   rw [hs] at h2
   obtain ⟨rfl,m2,z,R2,j1,j2,rfl⟩:=h2
   simp only [thn]
   rw [j1] at hlen ⊢
   simp only [x9q] at hlen
   obtain ⟨l,st2,k1,k2⟩:=ihl d m2 z R2 r dd (W++[q.1]) j2 hd (by simp only [x9q];omega) (by rw [eL];simp only [x9q];omega)
   rw [eL] at k1
   refine ⟨l,st2,go _ k1,?_⟩
   cases hc2:isT 4 [44] (z::R2) with
   |false =>
    rw [hc2,if_neg (by simp)] at k2
    obtain ⟨rfl,rfl⟩:=k2
    rw [if_neg (by simp)]
    exact ⟨rfl,m2,z,R2,rfl,j2,rfl⟩
   |true =>
    rw [hc2,if_pos rfl] at k2
    rw [if_pos rfl]
    simp only [List.tail_cons]
    cases hs2:sTests f (d+1) R2 with
    |inl o=>rw [hs2] at k2;exact k2
    |inr w =>
     rw [hs2] at k2
     obtain ⟨rfl,m3,z3,R3,q1,q2,rfl⟩:=k2
     exact ⟨by simp,m3,z3,R3,q1,q2,rfl⟩
theorem qv4 {f:Nat} (ih:PT b f) (ihl:LL b f):PL b (f+1):=by
 intro d n x R r dd hA hd hf hl
 simp only [x9q] at hf hl
 simp only [sNeed]
 cases hc:isT 4 [40] (x::R) with
 |false =>
  have g3:=qt4 (b:=b) (n:=n) hc r dd (d:Int)
  have g3:q11z (ByteArray.mk (List.toArray [40])) b ((n:Nat):Int) ((x.k:Nat):Int) ((x.o:Nat):Int) (baL x.s) false r dd (d:Int)=some ((),((),(b,(((n:Nat):Int),(((x.k:Nat):Int),(((x.o:Nat):Int),(baL x.s,(true,(r,(dd,(d:Int))))))))))):=g3
  have h1:=q1d5 b ((n:Nat):Int) ((x.k:Nat):Int) ((x.o:Nat):Int) (baL x.s) r dd d (by omega)
  have h2:=qpi b ((n:Nat):Int) ((x.k:Nat):Int) ((x.o:Nat):Int) (baL x.s) r dd (d:Int) [tz0]
  have h2:q119 1 b ((n:Nat):Int) ((x.k:Nat):Int) ((x.o:Nat):Int) (baL x.s) true r dd (d:Int) [tz0]=some (((),([tz0].length,false)),((b,(((n:Nat):Int),(((x.k:Nat):Int),(((x.o:Nat):Int),(baL x.s,(true,(r,(dd,(d:Int))))))))),[tz0])):=h2
  refine ⟨[tz0],stP b n x true r dd (d:Int),q118 ?_,n,x,rfl,rfl⟩
  have one0:([[C.int IntKind.i64 0,C.sl (qcu.encL []),C.str noTx,C.int IntKind.i64 0,C.str noTx,C.int IntKind.i64 0]]:List (List C))=qcu.encL [tz0]:=one_T tz0
  simp only [q11j,gL,dL,q85,qk3,x25q,x26q,x27q,qol,q4x,q3k,q43,q164,qoo,q52,q3n,q46,q16b,qom,q4y,q4z,q3l,q44,q166,q165,q167,qon,q50,q51,q3m,q45,q169,q168,q16a,qoh,q4c,q4d,q4e,q4f,q4g,q4h,q3g,q3z,q15h,q15g,q15i,q15j,q15k,q15l,q15m,qoj,q4j,q4k,q4o,q4p,q4q,q4r,q4s,q4t,q4u,q4v,q4l,q4m,q4n,q3i,q41,q15p,q15o,q15u,q15t,q15v,q15w,q15x,q15y,q15z,q160,q161,q162,q15q,q15r,q15s,qoi,q4i,q3h,q40,q15n,one0,g3,h1,h2,x0q,x20q,qt3]
 |true =>
  obtain ⟨m,y,R',rfl,g2,g3⟩:=qt5 hb hA hc r dd (d:Int)
  have g3:q11z (ByteArray.mk (List.toArray [40])) b ((n:Nat):Int) ((x.k:Nat):Int) ((x.o:Nat):Int) (baL x.s) false r dd (d:Int)=some ((),((),(b,(((m:Nat):Int),(((y.k:Nat):Int),(((y.o:Nat):Int),(baL y.s,(false,(r,(dd,(d:Int))))))))))):=g3
  simp only [x9q] at hf hl
  obtain ⟨t,st,h1,h2⟩:=ih d m y R' r dd g2 hd (by simp only [x9q];omega) (by simp only [x9q];omega)
  have go:∀ (l:List S35) (st2 st3:Pst),q119 1 st.1 st.2.1 st.2.2.1 st.2.2.2.1 st.2.2.2.2.1 st.2.2.2.2.2.1 st.2.2.2.2.2.2.1 st.2.2.2.2.2.2.2.1 st.2.2.2.2.2.2.2.2 [t]=some (((),(l.length,false)),(st2,l)) ->
    q11z (ByteArray.mk (List.toArray [41])) st2.1 st2.2.1 st2.2.2.1 st2.2.2.2.1 st2.2.2.2.2.1 st2.2.2.2.2.2.1 st2.2.2.2.2.2.2.1 st2.2.2.2.2.2.2.2.1 st2.2.2.2.2.2.2.2.2=some ((),((),st3)) ->
    q116 b ((n:Nat):Int) ((x.k:Nat):Int) ((x.o:Nat):Int) (baL x.s) false r dd (d:Int)=some (l,(l,st3)):=λl st2 st3 hz hn=>by
   refine q118 ?_
   simp only [q11j,gL,dL,q85,qk3,x25q,x26q,x27q,qol,q4x,q3k,q43,q164,qoo,q52,q3n,q46,q16b,qom,q4y,q4z,q3l,q44,q166,q165,q167,qon,q50,q51,q3m,q45,q169,q168,q16a,qoh,q4c,q4d,q4e,q4f,q4g,q4h,q3g,q3z,q15h,q15g,q15i,q15j,q15k,q15l,q15m,qoj,q4j,q4k,q4o,q4p,q4q,q4r,q4s,q4t,q4u,q4v,q4l,q4m,q4n,q3i,q41,q15p,q15o,q15u,q15t,q15v,q15w,q15x,q15y,q15z,q160,q161,q162,q15q,q15r,q15s,qoi,q4i,q3h,q40,q15n,one_T,g3,h1,hz,hn,x0q,x20q]
  simp only [x20q,List.tail_cons,thn]
  unfold sTests
  cases hs:sTest f (d+1) (y::R') with
  |inl o =>
   rw [hs] at h2
   obtain ⟨m2,z,z1,rfl⟩:=h2
   have hd3:=qpi b ((m2:Nat):Int) ((z.k:Nat):Int) ((z.o:Nat):Int) (baL z.s) r dd (d:Int) [t]
   exact ⟨[t],stP b m2 z true r dd (d:Int),go [t] (stP b m2 z true r dd (d:Int)) _ hd3 (qt3 _ _ _ _ _ _ _ _ _),m2,z,z1,rfl⟩
  |inr q =>
   have hlen:=qqf hs
   rw [hs] at h2
   obtain ⟨rfl,m2,z,R2,j1,j2,rfl⟩:=h2
   simp only [thn]
   rw [j1] at hlen ⊢
   simp only [x9q] at hlen
   obtain ⟨l,st2,k1,k2⟩:=ihl d m2 z R2 r dd [q.1] j2 hd (by simp only [x9q];omega) (by simp only [x9q,x8q];omega)
   -- the closing bracket
   have fin:∀ (ts:List S35) (m3:Nat) (z3:Tok) (R3:List Tok),At b m3 z3 R3->st2=stP b m3 z3 false r dd (d:Int)->l=ts ->
     ∃ l st,q116 b ((n:Nat):Int) ((x.k:Nat):Int) ((x.o:Nat):Int) (baL x.s) false r dd (d:Int)=some (l,(l,st))/\POs b r dd (d:Int) [] (thn (if isT 4 [41] (z3::R3)=true then Sum.inr ((z3::R3).tail) else Sum.inl (ofs (z3::R3))) λr2=>Sum.inr (ts,r2)) l st:=by
    intro ts m3 z3 R3 hA3 hst hlt
    subst hst hlt
    cases hc3:isT 4 [41] (z3::R3) with
    |false =>
     have n3:=qt4 (b:=b) (n:=m3) hc3 r dd (d:Int)
     exact ⟨l,_,go l _ _ k1 n3,m3,z3,rfl,rfl⟩
    |true =>
     obtain ⟨m4,z4,R4,rfl,q2,q3⟩:=qt5 hb hA3 hc3 r dd (d:Int)
     exact ⟨l,_,go l _ _ k1 q3,by simp,m4,z4,R4,rfl,q2,rfl⟩
   cases hc2:isT 4 [44] (z::R2) with
   |false =>
    rw [hc2,if_neg (by simp)] at k2
    obtain ⟨k3,k4⟩:=k2
    rw [if_neg (by simp)]
    exact fin [q.1] m2 z R2 j2 k4 k3
   |true =>
    rw [hc2,if_pos rfl] at k2
    rw [if_pos rfl]
    simp only [List.tail_cons]
    cases hs2:sTests f (d+1) R2 with
    |inl o =>
     rw [hs2] at k2
     obtain ⟨m3,z3,z4,rfl⟩:=k2
     exact ⟨l,stP b m3 z3 true r dd (d:Int),go l _ _ k1 (qt3 _ _ _ _ _ _ _ _ _),m3,z3,z4,rfl⟩
    |inr w =>
     rw [hs2] at k2
     obtain ⟨k3,m3,z3,R3,q1,q2,k4⟩:=k2
     simp only
     rw [q1]
     exact fin (q.1::w.1) m3 z3 R3 q2 k4 (by rw [k3];rfl)
theorem qx4 {f:Nat} (ih:PT b f) (ihl:PL b f):PT b (f+1):=by
 intro d n x R r dd hA hd hf hl
 simp only [x9q] at hf hl
 have e0:qcu.decL []=[]:=rfl
 have w1:IntKind.i64.wrap ((d:Int)+1)=((d+1:Nat):Int):=q1et (n:=1000) (by omega) (by omega)
 have w2:IntKind.i64.wrap (((d+1:Nat):Int) - 1)=(d:Int):=by rw [q1es (by omega)];omega
 unfold sTest
 by_cases h8:8<d+1
 ·rw [if_pos (Or.inl h8)]
  have h8':((d+1:Nat):Int)>8:=by omega
  refine ⟨tz0,stP b n x true r dd (d:Int),q13t ?_,n,x,rfl,rfl⟩
  simp only [q13x,gL,dL,wI,q85,qk3,qou,x0q,x1q,x21q,q1a7,w1,w2,e0,h8',decide_true,x20q]
 have h8':¬ ((d+1:Nat):Int)>8:=by omega
 have nos:∀ w:List UInt8,¬ (x.k=2/\x.s=w)->q10z 2 (baL w) b ((n:Nat):Int) ((x.k:Nat):Int) ((x.o:Nat):Int) (baL x.s) false r dd ((d+1:Nat):Int)=some (false,(false,(b,(((n:Nat):Int),(((x.k:Nat):Int),(((x.o:Nat):Int),(baL x.s,(false,(r,(dd,((d+1:Nat):Int))))))))))):=λw hw =>
  is_no (k:=2) (R:=R) (by simp only [isT,Bool.and_eq_false_iff,beq_eq_false_iff_ne];by_cases e:x.k=2;exact .inr (λe2=>hw ⟨e,e2⟩);exact .inl e) r dd ((d+1:Nat):Int)
 have i1:¬ (x.k=2/\x.s=wTrue)->q10z 2 (ByteArray.mk (List.toArray [116,114,117,101])) b ((n:Nat):Int) ((x.k:Nat):Int) ((x.o:Nat):Int) (baL x.s) false r dd ((d+1:Nat):Int)=some (false,(false,(b,(((n:Nat):Int),(((x.k:Nat):Int),(((x.o:Nat):Int),(baL x.s,(false,(r,(dd,((d+1:Nat):Int))))))))))):=nos wTrue
 have i2:¬ (x.k=2/\x.s=wNot)->q10z 2 (ByteArray.mk (List.toArray [110,111,116])) b ((n:Nat):Int) ((x.k:Nat):Int) ((x.o:Nat):Int) (baL x.s) false r dd ((d+1:Nat):Int)=some (false,(false,(b,(((n:Nat):Int),(((x.k:Nat):Int),(((x.o:Nat):Int),(baL x.s,(false,(r,(dd,((d+1:Nat):Int))))))))))):=nos wNot
 have i3:¬ (x.k=2/\x.s=wAll)->q10z 2 (ByteArray.mk (List.toArray [97,108,108])) b ((n:Nat):Int) ((x.k:Nat):Int) ((x.o:Nat):Int) (baL x.s) false r dd ((d+1:Nat):Int)=some (false,(false,(b,(((n:Nat):Int),(((x.k:Nat):Int),(((x.o:Nat):Int),(baL x.s,(false,(r,(dd,((d+1:Nat):Int))))))))))):=nos wAll
 have i4:¬ (x.k=2/\x.s=wAny)->q10z 2 (ByteArray.mk (List.toArray [97,110,121])) b ((n:Nat):Int) ((x.k:Nat):Int) ((x.o:Nat):Int) (baL x.s) false r dd ((d+1:Nat):Int)=some (false,(false,(b,(((n:Nat):Int),(((x.k:Nat):Int),(((x.o:Nat):Int),(baL x.s,(false,(r,(dd,((d+1:Nat):Int))))))))))):=nos wAny
 have i5:¬ (x.k=2/\x.s=wHeader)->q10z 2 (ByteArray.mk (List.toArray [104,101,97,100,101,114])) b ((n:Nat):Int) ((x.k:Nat):Int) ((x.o:Nat):Int) (baL x.s) false r dd ((d+1:Nat):Int)=some (false,(false,(b,(((n:Nat):Int),(((x.k:Nat):Int),(((x.o:Nat):Int),(baL x.s,(false,(r,(dd,((d+1:Nat):Int))))))))))):=nos wHeader
 have i6:¬ (x.k=2/\x.s=wFrom)->q10z 2 (ByteArray.mk (List.toArray [102,114,111,109])) b ((n:Nat):Int) ((x.k:Nat):Int) ((x.o:Nat):Int) (baL x.s) false r dd ((d+1:Nat):Int)=some (false,(false,(b,(((n:Nat):Int),(((x.k:Nat):Int),(((x.o:Nat):Int),(baL x.s,(false,(r,(dd,((d+1:Nat):Int))))))))))):=nos wFrom
 have i7:¬ (x.k=2/\x.s=wTo)->q10z 2 (ByteArray.mk (List.toArray [116,111])) b ((n:Nat):Int) ((x.k:Nat):Int) ((x.o:Nat):Int) (baL x.s) false r dd ((d+1:Nat):Int)=some (false,(false,(b,(((n:Nat):Int),(((x.k:Nat):Int),(((x.o:Nat):Int),(baL x.s,(false,(r,(dd,((d+1:Nat):Int))))))))))):=nos wTo
 have i8:¬ (x.k=2/\x.s=wSize)->q10z 2 (ByteArray.mk (List.toArray [115,105,122,101])) b ((n:Nat):Int) ((x.k:Nat):Int) ((x.o:Nat):Int) (baL x.s) false r dd ((d+1:Nat):Int)=some (false,(false,(b,(((n:Nat):Int),(((x.k:Nat):Int),(((x.o:Nat):Int),(baL x.s,(false,(r,(dd,((d+1:Nat):Int))))))))))):=nos wSize
 have i9:¬ (x.k=2/\x.s=wExists)->q10z 2 (ByteArray.mk (List.toArray [101,120,105,115,116,115])) b ((n:Nat):Int) ((x.k:Nat):Int) ((x.o:Nat):Int) (baL x.s) false r dd ((d+1:Nat):Int)=some (false,(false,(b,(((n:Nat):Int),(((x.k:Nat):Int),(((x.o:Nat):Int),(baL x.s,(false,(r,(dd,((d+1:Nat):Int))))))))))):=nos wExists
 have none:(∀ i:Nat,1<=i->i<=9->testN x.s=i->¬ x.k=2)->∃ t st,q13r b ((n:Nat):Int) ((x.k:Nat):Int) ((x.o:Nat):Int) (baL x.s) false r dd (d:Int)=some (tup t,(tup t,st))/\PO b r dd (d:Int) (.inl x.o) t st:=by
  intro hn
  have hne:∀ (w:List UInt8) (i:Nat),1<=i->i<=9->testN w=i->¬ (x.k=2/\x.s=w):=λw i h1 h2 h3 h=>hn i h1 h2 (by rw [h.2];exact h3) h.1
  have j1:=i1 (hne wTrue 1 (by omega) (by omega) rfl)
  have j2:=i2 (hne wNot 2 (by omega) (by omega) rfl)
  have j3:=i3 (hne wAll 3 (by omega) (by omega) rfl)
  have j4:=i4 (hne wAny 4 (by omega) (by omega) rfl)
  have j5:=i5 (hne wHeader 5 (by omega) (by omega) rfl)
  have j6:=i6 (hne wFrom 6 (by omega) (by omega) rfl)
  have j7:=i7 (hne wTo 7 (by omega) (by omega) rfl)
  have j8:=i8 (hne wSize 8 (by omega) (by omega) rfl)
  have j9:=i9 (hne wExists 9 (by omega) (by omega) rfl)
  refine ⟨tz0,stP b n x true r dd (d:Int),q13t ?_,n,x,rfl,rfl⟩
  simp only [q13x,gL,dL,wI,q85,qk3,x0q,x1q,x21q,q1a7,w1,w2,e0,h8',decide_false,j1,j2,j3,j4,j5,j6,j7,j8,j9]
 by_cases hx:x.k=2
 case neg =>
  rw [if_pos (Or.inr hx)]
  exact none λ_ _ _ _=>hx
 rw [if_neg (by omega)]
 have hle:=q1d4 x.s
 by_cases h0:testN x.s=0
 ·simp only [h0]
  exact none λi h1 h2 h3=>by omega
 have word:∀ (w:List UInt8),testN x.s=testN w->(∀ u:List UInt8,testN u=testN w->testN w≠0->u=w)->x.s=w:=λw h1 h2=>h2 _ h1 (by omega)
 have hwds:x.s=wTrue∨x.s=wNot∨x.s=wAll∨x.s=wAny∨x.s=wHeader∨x.s=wFrom∨x.s=wTo∨x.s=wSize∨x.s=wExists:=by
  unfold testN at h0
  by_cases q1:x.s=wTrue;· exact .inl q1
  by_cases q2:x.s=wNot;· exact .inr (.inl q2)
  by_cases q3:x.s=wAll;· exact .inr (.inr (.inl q3))
  by_cases q4:x.s=wAny;· exact .inr (.inr (.inr (.inl q4)))
  by_cases q5:x.s=wHeader;· exact .inr (.inr (.inr (.inr (.inl q5))))
  by_cases q6:x.s=wFrom;· exact .inr (.inr (.inr (.inr (.inr (.inl q6)))))
  by_cases q7:x.s=wTo;· exact .inr (.inr (.inr (.inr (.inr (.inr (.inl q7))))))
  by_cases q8:x.s=wSize;· exact .inr (.inr (.inr (.inr (.inr (.inr (.inr (.inl q8)))))))
  by_cases q9:x.s=wExists;· exact .inr (.inr (.inr (.inr (.inr (.inr (.inr (.inr q9)))))))
  simp [q1,q2,q3,q4,q5,q6,q7,q8,q9] at h0
 clear word
 rcases hwds with hw|hw|hw|hw|hw|hw|hw|hw|hw
 ·have hN:testN x.s=1:=by rw [hw];rfl
  simp only [hN]
  obtain ⟨m,y,R',rfl,g2,g3⟩:=qov hb hA (k:=2) rfl (w:=wTrue) (by simp [isT,hx,hw]) r dd ((d+1:Nat):Int)
  have g3:q10z 2 (ByteArray.mk (List.toArray [116,114,117,101])) b ((n:Nat):Int) ((x.k:Nat):Int) ((x.o:Nat):Int) (baL x.s) false r dd ((d+1:Nat):Int)=some (true,(true,(b,(((m:Nat):Int),(((y.k:Nat):Int),(((y.o:Nat):Int),(baL y.s,(false,(r,(dd,((d+1:Nat):Int))))))))))):=g3
  simp only [x9q] at hf hl
  refine ⟨tst 1 [] [] 0 [] 0,stP b m y false r dd (d:Int),q13t ?_,rfl,m,y,R',rfl,g2,rfl⟩
  simp only [q13x,gL,dL,wI,q85,qk3,x25q,x26q,x27q,qol,q4x,q3k,q43,q164,qoo,q52,q3n,q46,q16b,qom,q4y,q4z,q3l,q44,q166,q165,q167,qon,q50,q51,q3m,q45,q169,q168,q16a,qoh,q4c,q4d,q4e,q4f,q4g,q4h,q3g,q3z,q15h,q15g,q15i,q15j,q15k,q15l,q15m,qoj,q4j,q4k,q4o,q4p,q4q,q4r,q4s,q4t,q4u,q4v,q4l,q4m,q4n,q3i,q41,q15p,q15o,q15u,q15t,q15v,q15w,q15x,q15y,q15z,q160,q161,q162,q15q,q15r,q15s,qoi,q4i,q3h,q40,q15n,x0q,x1q,x21q,x20q,q1a7,w1,w2,e0,h8',decide_false,g3]
  rfl
 ·have hN:testN x.s=2:=by rw [hw];rfl
  simp only [hN]
  have j1:=i1 (λe=>absurd (hw.symm.trans e.2) (by decide))
  obtain ⟨m,y,R',rfl,g2,g3⟩:=qov hb hA (k:=2) rfl (w:=wNot) (by simp [isT,hx,hw]) r dd ((d+1:Nat):Int)
  have g3:q10z 2 (ByteArray.mk (List.toArray [110,111,116])) b ((n:Nat):Int) ((x.k:Nat):Int) ((x.o:Nat):Int) (baL x.s) false r dd ((d+1:Nat):Int)=some (true,(true,(b,(((m:Nat):Int),(((y.k:Nat):Int),(((y.o:Nat):Int),(baL y.s,(false,(r,(dd,((d+1:Nat):Int))))))))))):=g3
  simp only [x9q] at hf hl
  obtain ⟨t,st,h1,h2⟩:=ih (d+1) m y R' r dd g2 (by omega) (by simp only [x9q];omega) (by simp only [x9q];omega)
  have go:∀ (m2:Nat) (z:Tok) (bd:Bool),st=stP b m2 z bd r dd ((d+1:Nat):Int)->q13r b ((n:Nat):Int) ((x.k:Nat):Int) ((x.o:Nat):Int) (baL x.s) false r dd (d:Int)=some (tup (tst 2 [t] [] 0 [] 0),(tup (tst 2 [t] [] 0 [] 0),stP b m2 z bd r dd (d:Int))):=λm2 z bd hst=>by
   subst hst
   refine q13t ?_
   simp only [q13x,gL,dL,wI,q85,qk3,x25q,x26q,x27q,qol,q4x,q3k,q43,q164,qoo,q52,q3n,q46,q16b,qom,q4y,q4z,q3l,q44,q166,q165,q167,qon,q50,q51,q3m,q45,q169,q168,q16a,qoh,q4c,q4d,q4e,q4f,q4g,q4h,q3g,q3z,q15h,q15g,q15i,q15j,q15k,q15l,q15m,qoj,q4j,q4k,q4o,q4p,q4q,q4r,q4s,q4t,q4u,q4v,q4l,q4m,q4n,q3i,q41,q15p,q15o,q15u,q15t,q15v,q15w,q15x,q15y,q15z,q160,q161,q162,q15q,q15r,q15s,qoi,q4i,q3h,q40,q15n,x0q,x1q,x21q,x20q,q1a7,w1,w2,e0,h8',decide_false,g3,j1,h1,one_T]
   rfl
  cases hs:sTest f (d+1+1) (y::R') with
  |inl o =>
   rw [hs] at h2
   obtain ⟨m2,z,z1,hst⟩:=h2
   exact ⟨_,_,go m2 z true hst,m2,z,z1,rfl⟩
  |inr q =>
   rw [hs] at h2
   obtain ⟨rfl,m2,z,R2,u1,u2,hst⟩:=h2
   exact ⟨_,_,go m2 z false hst,rfl,m2,z,R2,u1,u2,rfl⟩
 ·have hN:testN x.s=3:=by rw [hw];rfl
  simp only [hN]
  have j1:=i1 (λe=>absurd (hw.symm.trans e.2) (by decide))
  have j2:=i2 (λe=>absurd (hw.symm.trans e.2) (by decide))
  obtain ⟨m,y,R',rfl,g2,g3⟩:=qov hb hA (k:=2) rfl (w:=wAll) (by simp [isT,hx,hw]) r dd ((d+1:Nat):Int)
  have g3:q10z 2 (ByteArray.mk (List.toArray [97,108,108])) b ((n:Nat):Int) ((x.k:Nat):Int) ((x.o:Nat):Int) (baL x.s) false r dd ((d+1:Nat):Int)=some (true,(true,(b,(((m:Nat):Int),(((y.k:Nat):Int),(((y.o:Nat):Int),(baL y.s,(false,(r,(dd,((d+1:Nat):Int))))))))))):=g3
  simp only [x9q] at hf hl
  obtain ⟨l,st,h1,h2⟩:=ihl (d+1) m y R' r dd g2 (by omega) (by simp only [x9q];omega) (by simp only [x9q];omega)
  have go:∀ (m2:Nat) (z:Tok) (bd:Bool),st=stP b m2 z bd r dd ((d+1:Nat):Int)->q13r b ((n:Nat):Int) ((x.k:Nat):Int) ((x.o:Nat):Int) (baL x.s) false r dd (d:Int)=some (tup (tst 3 l [] 0 [] 0),(tup (tst 3 l [] 0 [] 0),stP b m2 z bd r dd (d:Int))):=λm2 z bd hst=>by
   subst hst
   refine q13t ?_
   simp only [q13x,gL,dL,wI,q85,qk3,x25q,x26q,x27q,qol,q4x,q3k,q43,q164,qoo,q52,q3n,q46,q16b,qom,q4y,q4z,q3l,q44,q166,q165,q167,qon,q50,q51,q3m,q45,q169,q168,q16a,qoh,q4c,q4d,q4e,q4f,q4g,q4h,q3g,q3z,q15h,q15g,q15i,q15j,q15k,q15l,q15m,qoj,q4j,q4k,q4o,q4p,q4q,q4r,q4s,q4t,q4u,q4v,q4l,q4m,q4n,q3i,q41,q15p,q15o,q15u,q15t,q15v,q15w,q15x,q15y,q15z,q160,q161,q162,q15q,q15r,q15s,qoi,q4i,q3h,q40,q15n,x0q,x1q,x21q,x20q,q1a7,w1,w2,e0,h8',decide_false,g3,j1,j2,h1]
   rfl
  cases hs1:sNeed [40] (y::R') with
  |inl o =>
   rw [hs1] at h2
   obtain ⟨m2,z,z1,hst⟩:=h2
   exact ⟨_,_,go m2 z true hst,m2,z,z1,rfl⟩
  |inr r1 =>
   rw [hs1] at h2
   dsimp only [thn] at h2 ⊢
   cases hs2:sTests f (d+1+1) r1 with
   |inl o =>
    rw [hs2] at h2
    obtain ⟨m2,z,z1,hst⟩:=h2
    exact ⟨_,_,go m2 z true hst,m2,z,z1,rfl⟩
   |inr q =>
    rw [hs2] at h2
    dsimp only at h2 ⊢
    cases hs3:sNeed [41] q.2 with
    |inl o =>
     rw [hs3] at h2
     obtain ⟨m2,z,z1,hst⟩:=h2
     exact ⟨_,_,go m2 z true hst,m2,z,z1,rfl⟩
    |inr r2 =>
     rw [hs3] at h2
     obtain ⟨hl2,m2,z,R2,u1,u2,hst⟩:=h2
     exact ⟨_,_,go m2 z false hst,by rw [hl2];rfl,m2,z,R2,u1,u2,rfl⟩
 ·have hN:testN x.s=4:=by rw [hw];rfl
  simp only [hN]
  have j1:=i1 (λe=>absurd (hw.symm.trans e.2) (by decide))
  have j2:=i2 (λe=>absurd (hw.symm.trans e.2) (by decide))
  have j3:=i3 (λe=>absurd (hw.symm.trans e.2) (by decide))
  obtain ⟨m,y,R',rfl,g2,g3⟩:=qov hb hA (k:=2) rfl (w:=wAny) (by simp [isT,hx,hw]) r dd ((d+1:Nat):Int)
  have g3:q10z 2 (ByteArray.mk (List.toArray [97,110,121])) b ((n:Nat):Int) ((x.k:Nat):Int) ((x.o:Nat):Int) (baL x.s) false r dd ((d+1:Nat):Int)=some (true,(true,(b,(((m:Nat):Int),(((y.k:Nat):Int),(((y.o:Nat):Int),(baL y.s,(false,(r,(dd,((d+1:Nat):Int))))))))))):=g3
  simp only [x9q] at hf hl
  obtain ⟨l,st,h1,h2⟩:=ihl (d+1) m y R' r dd g2 (by omega) (by simp only [x9q];omega) (by simp only [x9q];omega)
  have go:∀ (m2:Nat) (z:Tok) (bd:Bool),st=stP b m2 z bd r dd ((d+1:Nat):Int)->q13r b ((n:Nat):Int) ((x.k:Nat):Int) ((x.o:Nat):Int) (baL x.s) false r dd (d:Int)=some (tup (tst 4 l [] 0 [] 0),(tup (tst 4 l [] 0 [] 0),stP b m2 z bd r dd (d:Int))):=λm2 z bd hst=>by
   subst hst
   refine q13t ?_
   simp only [q13x,gL,dL,wI,q85,qk3,x25q,x26q,x27q,qol,q4x,q3k,q43,q164,qoo,q52,q3n,q46,q16b,qom,q4y,q4z,q3l,q44,q166,q165,q167,qon,q50,q51,q3m,q45,q169,q168,q16a,qoh,q4c,q4d,q4e,q4f,q4g,q4h,q3g,q3z,q15h,q15g,q15i,q15j,q15k,q15l,q15m,qoj,q4j,q4k,q4o,q4p,q4q,q4r,q4s,q4t,q4u,q4v,q4l,q4m,q4n,q3i,q41,q15p,q15o,q15u,q15t,q15v,q15w,q15x,q15y,q15z,q160,q161,q162,q15q,q15r,q15s,qoi,q4i,q3h,q40,q15n,x0q,x1q,x21q,x20q,q1a7,w1,w2,e0,h8',decide_false,g3,j1,j2,j3,h1]
   rfl
  cases hs1:sNeed [40] (y::R') with
  |inl o =>
   rw [hs1] at h2
   obtain ⟨m2,z,z1,hst⟩:=h2
   exact ⟨_,_,go m2 z true hst,m2,z,z1,rfl⟩
  |inr r1 =>
   rw [hs1] at h2
   dsimp only [thn] at h2 ⊢
   cases hs2:sTests f (d+1+1) r1 with
   |inl o =>
    rw [hs2] at h2
    obtain ⟨m2,z,z1,hst⟩:=h2
    exact ⟨_,_,go m2 z true hst,m2,z,z1,rfl⟩
   |inr q =>
    rw [hs2] at h2
    dsimp only at h2 ⊢
    cases hs3:sNeed [41] q.2 with
    |inl o =>
     rw [hs3] at h2
     obtain ⟨m2,z,z1,hst⟩:=h2
     exact ⟨_,_,go m2 z true hst,m2,z,z1,rfl⟩
    |inr r2 =>
     rw [hs3] at h2
     obtain ⟨hl2,m2,z,R2,u1,u2,hst⟩:=h2
     exact ⟨_,_,go m2 z false hst,by rw [hl2];rfl,m2,z,R2,u1,u2,rfl⟩
 ·have hN:testN x.s=5:=by rw [hw];rfl
  simp only [hN]
  have j1:=i1 (λe=>absurd (hw.symm.trans e.2) (by decide))
  have j2:=i2 (λe=>absurd (hw.symm.trans e.2) (by decide))
  have j3:=i3 (λe=>absurd (hw.symm.trans e.2) (by decide))
  have j4:=i4 (λe=>absurd (hw.symm.trans e.2) (by decide))
  obtain ⟨m,y,R',rfl,g2,g3⟩:=qov hb hA (k:=2) rfl (w:=wHeader) (by simp [isT,hx,hw]) r dd ((d+1:Nat):Int)
  have g3:q10z 2 (ByteArray.mk (List.toArray [104,101,97,100,101,114])) b ((n:Nat):Int) ((x.k:Nat):Int) ((x.o:Nat):Int) (baL x.s) false r dd ((d+1:Nat):Int)=some (true,(true,(b,(((m:Nat):Int),(((y.k:Nat):Int),(((y.o:Nat):Int),(baL y.s,(false,(r,(dd,((d+1:Nat):Int))))))))))):=g3
  simp only [x9q] at hf hl
  simp only [sTake]
  by_cases hy:y.k=1
  ·obtain ⟨m2,z,R2,rfl,q2,q3⟩:=q1d1 hb g2 (k:=1) rfl hy r dd ((d+1:Nat):Int)
   have q3:q13d 1 b ((m:Nat):Int) ((y.k:Nat):Int) ((y.o:Nat):Int) (baL y.s) false r dd ((d+1:Nat):Int)=some (baL y.s,(baL y.s,(b,(((m2:Nat):Int),(((z.k:Nat):Int),(((z.o:Nat):Int),(baL z.s,(false,(r,(dd,((d+1:Nat):Int))))))))))):=q3
   rw [if_pos hy]
   dsimp only [thn]
   have hm:=mat_s 5 0 (baL y.s) 0 noTx 0 [] hb q2 r dd ((d+1:Nat):Int)
   cases hs:sMatch (z::R2) with
   |inl o =>
    rw [hs] at hm
    obtain ⟨m3,z3,p,tx,rfl,h1⟩:=hm
    have h1:q11k b ((m2:Nat):Int) ((z.k:Nat):Int) ((z.o:Nat):Int) (baL z.s) false r dd ((d+1:Nat):Int) 5 0 (baL y.s) 0 noTx 0 []=some ((),((),((b,(((m3:Nat):Int),(((z3.k:Nat):Int),(((z3.o:Nat):Int),(baL z3.s,(true,(r,(dd,((d+1:Nat):Int))))))))),((5,(0,(baL y.s,(p,(tx,0))))),[])))):=h1
    refine ⟨⟨5,[],baL y.s,p,tx,0⟩,stP b m3 z3 true r dd (d:Int),q13t ?_,m3,z3,rfl,rfl⟩
    simp only [q13x,gL,dL,wI,q85,qk3,x25q,x26q,x27q,qol,q4x,q3k,q43,q164,qoo,q52,q3n,q46,q16b,qom,q4y,q4z,q3l,q44,q166,q165,q167,qon,q50,q51,q3m,q45,q169,q168,q16a,qoh,q4c,q4d,q4e,q4f,q4g,q4h,q3g,q3z,q15h,q15g,q15i,q15j,q15k,q15l,q15m,qoj,q4j,q4k,q4o,q4p,q4q,q4r,q4s,q4t,q4u,q4v,q4l,q4m,q4n,q3i,q41,q15p,q15o,q15u,q15t,q15v,q15w,q15x,q15y,q15z,q160,q161,q162,q15q,q15r,q15s,qoi,q4i,q3h,q40,q15n,x0q,x1q,x21q,x20q,q1a7,w1,w2,e0,h8',decide_false,g3,j1,j2,j3,j4,q3,h1]
   |inr q =>
    rw [hs] at hm
    obtain ⟨m3,z3,R3,u1,u2,h1⟩:=hm
    have h1:q11k b ((m2:Nat):Int) ((z.k:Nat):Int) ((z.o:Nat):Int) (baL z.s) false r dd ((d+1:Nat):Int) 5 0 (baL y.s) 0 noTx 0 []=some ((),((),((b,(((m3:Nat):Int),(((z3.k:Nat):Int),(((z3.o:Nat):Int),(baL z3.s,(false,(r,(dd,((d+1:Nat):Int))))))))),((5,(0,(baL y.s,(((q.1.1:Nat):Int),(baL q.1.2,0))))),[])))):=h1
    refine ⟨tst 5 [] y.s q.1.1 q.1.2 0,stP b m3 z3 false r dd (d:Int),q13t ?_,rfl,m3,z3,R3,u1,u2,rfl⟩
    simp only [q13x,gL,dL,wI,q85,qk3,x25q,x26q,x27q,qol,q4x,q3k,q43,q164,qoo,q52,q3n,q46,q16b,qom,q4y,q4z,q3l,q44,q166,q165,q167,qon,q50,q51,q3m,q45,q169,q168,q16a,qoh,q4c,q4d,q4e,q4f,q4g,q4h,q3g,q3z,q15h,q15g,q15i,q15j,q15k,q15l,q15m,qoj,q4j,q4k,q4o,q4p,q4q,q4r,q4s,q4t,q4u,q4v,q4l,q4m,q4n,q3i,q41,q15p,q15o,q15u,q15t,q15v,q15w,q15x,q15y,q15z,q160,q161,q162,q15q,q15r,q15s,qoi,q4i,q3h,q40,q15n,x0q,x1q,x21q,x20q,q1a7,w1,w2,e0,h8',decide_false,g3,j1,j2,j3,j4,q3,h1]
    rfl
  ·have q3:=q1cz (b:=b) (n:=m) (k:=1) hy r dd ((d+1:Nat):Int)
   have q3:q13d 1 b ((m:Nat):Int) ((y.k:Nat):Int) ((y.o:Nat):Int) (baL y.s) false r dd ((d+1:Nat):Int)=some (noTx,(noTx,(b,(((m:Nat):Int),(((y.k:Nat):Int),(((y.o:Nat):Int),(baL y.s,(true,(r,(dd,((d+1:Nat):Int))))))))))):=q3
   rw [if_neg hy]
   have h1:=qrn b 5 0 noTx 0 noTx 0 [] ((m:Nat):Int) ((y.k:Nat):Int) ((y.o:Nat):Int) (baL y.s) r dd ((d+1:Nat):Int)
   refine ⟨⟨5,[],noTx,0,noTx,0⟩,stP b m y true r dd (d:Int),q13t ?_,m,y,rfl,rfl⟩
   simp only [q13x,gL,dL,wI,q85,qk3,x25q,x26q,x27q,qol,q4x,q3k,q43,q164,qoo,q52,q3n,q46,q16b,qom,q4y,q4z,q3l,q44,q166,q165,q167,qon,q50,q51,q3m,q45,q169,q168,q16a,qoh,q4c,q4d,q4e,q4f,q4g,q4h,q3g,q3z,q15h,q15g,q15i,q15j,q15k,q15l,q15m,qoj,q4j,q4k,q4o,q4p,q4q,q4r,q4s,q4t,q4u,q4v,q4l,q4m,q4n,q3i,q41,q15p,q15o,q15u,q15t,q15v,q15w,q15x,q15y,q15z,q160,q161,q162,q15q,q15r,q15s,qoi,q4i,q3h,q40,q15n,x0q,x1q,x21q,x20q,q1a7,w1,w2,e0,h8',decide_false,g3,j1,j2,j3,j4,q3,h1]
 ·have hN:testN x.s=6:=by rw [hw];rfl
  simp only [hN]
  have j1:=i1 (λe=>absurd (hw.symm.trans e.2) (by decide))
  have j2:=i2 (λe=>absurd (hw.symm.trans e.2) (by decide))
  have j3:=i3 (λe=>absurd (hw.symm.trans e.2) (by decide))
  have j4:=i4 (λe=>absurd (hw.symm.trans e.2) (by decide))
  have j5:=i5 (λe=>absurd (hw.symm.trans e.2) (by decide))
  obtain ⟨m,y,R',rfl,g2,g3⟩:=qov hb hA (k:=2) rfl (w:=wFrom) (by simp [isT,hx,hw]) r dd ((d+1:Nat):Int)
  have g3:q10z 2 (ByteArray.mk (List.toArray [102,114,111,109])) b ((n:Nat):Int) ((x.k:Nat):Int) ((x.o:Nat):Int) (baL x.s) false r dd ((d+1:Nat):Int)=some (true,(true,(b,(((m:Nat):Int),(((y.k:Nat):Int),(((y.o:Nat):Int),(baL y.s,(false,(r,(dd,((d+1:Nat):Int))))))))))):=g3
  simp only [x9q] at hf hl
  have hm:=mat_s 6 0 noTx 0 noTx 0 [] hb g2 r dd ((d+1:Nat):Int)
  cases hs:sMatch (y::R') with
  |inl o =>
   rw [hs] at hm
   obtain ⟨m2,z,p,tx,rfl,h1⟩:=hm
   have h1:q11k b ((m:Nat):Int) ((y.k:Nat):Int) ((y.o:Nat):Int) (baL y.s) false r dd ((d+1:Nat):Int) 6 0 noTx 0 noTx 0 []=some ((),((),((b,(((m2:Nat):Int),(((z.k:Nat):Int),(((z.o:Nat):Int),(baL z.s,(true,(r,(dd,((d+1:Nat):Int))))))))),((6,(0,(noTx,(p,(tx,0))))),[])))):=h1
   refine ⟨⟨6,[],noTx,p,tx,0⟩,stP b m2 z true r dd (d:Int),q13t ?_,m2,z,rfl,rfl⟩
   simp only [q13x,gL,dL,wI,q85,qk3,x25q,x26q,x27q,qol,q4x,q3k,q43,q164,qoo,q52,q3n,q46,q16b,qom,q4y,q4z,q3l,q44,q166,q165,q167,qon,q50,q51,q3m,q45,q169,q168,q16a,qoh,q4c,q4d,q4e,q4f,q4g,q4h,q3g,q3z,q15h,q15g,q15i,q15j,q15k,q15l,q15m,qoj,q4j,q4k,q4o,q4p,q4q,q4r,q4s,q4t,q4u,q4v,q4l,q4m,q4n,q3i,q41,q15p,q15o,q15u,q15t,q15v,q15w,q15x,q15y,q15z,q160,q161,q162,q15q,q15r,q15s,qoi,q4i,q3h,q40,q15n,x0q,x1q,x21q,x20q,q1a7,w1,w2,e0,h8',decide_false,g3,j1,j2,j3,j4,j5,h1]
  |inr q =>
   rw [hs] at hm
   obtain ⟨m2,z,R2,u1,u2,h1⟩:=hm
   have h1:q11k b ((m:Nat):Int) ((y.k:Nat):Int) ((y.o:Nat):Int) (baL y.s) false r dd ((d+1:Nat):Int) 6 0 noTx 0 noTx 0 []=some ((),((),((b,(((m2:Nat):Int),(((z.k:Nat):Int),(((z.o:Nat):Int),(baL z.s,(false,(r,(dd,((d+1:Nat):Int))))))))),((6,(0,(noTx,(((q.1.1:Nat):Int),(baL q.1.2,0))))),[])))):=h1
   refine ⟨tst 6 [] [] q.1.1 q.1.2 0,stP b m2 z false r dd (d:Int),q13t ?_,rfl,m2,z,R2,u1,u2,rfl⟩
   simp only [q13x,gL,dL,wI,q85,qk3,x25q,x26q,x27q,qol,q4x,q3k,q43,q164,qoo,q52,q3n,q46,q16b,qom,q4y,q4z,q3l,q44,q166,q165,q167,qon,q50,q51,q3m,q45,q169,q168,q16a,qoh,q4c,q4d,q4e,q4f,q4g,q4h,q3g,q3z,q15h,q15g,q15i,q15j,q15k,q15l,q15m,qoj,q4j,q4k,q4o,q4p,q4q,q4r,q4s,q4t,q4u,q4v,q4l,q4m,q4n,q3i,q41,q15p,q15o,q15u,q15t,q15v,q15w,q15x,q15y,q15z,q160,q161,q162,q15q,q15r,q15s,qoi,q4i,q3h,q40,q15n,x0q,x1q,x21q,x20q,q1a7,w1,w2,e0,h8',decide_false,g3,j1,j2,j3,j4,j5,h1]
   rfl
 ·have hN:testN x.s=7:=by rw [hw];rfl
  simp only [hN]
  have j1:=i1 (λe=>absurd (hw.symm.trans e.2) (by decide))
  have j2:=i2 (λe=>absurd (hw.symm.trans e.2) (by decide))
  have j3:=i3 (λe=>absurd (hw.symm.trans e.2) (by decide))
  have j4:=i4 (λe=>absurd (hw.symm.trans e.2) (by decide))
  have j5:=i5 (λe=>absurd (hw.symm.trans e.2) (by decide))
  have j6:=i6 (λe=>absurd (hw.symm.trans e.2) (by decide))
  obtain ⟨m,y,R',rfl,g2,g3⟩:=qov hb hA (k:=2) rfl (w:=wTo) (by simp [isT,hx,hw]) r dd ((d+1:Nat):Int)
  have g3:q10z 2 (ByteArray.mk (List.toArray [116,111])) b ((n:Nat):Int) ((x.k:Nat):Int) ((x.o:Nat):Int) (baL x.s) false r dd ((d+1:Nat):Int)=some (true,(true,(b,(((m:Nat):Int),(((y.k:Nat):Int),(((y.o:Nat):Int),(baL y.s,(false,(r,(dd,((d+1:Nat):Int))))))))))):=g3
  simp only [x9q] at hf hl
  have hm:=mat_s 7 0 noTx 0 noTx 0 [] hb g2 r dd ((d+1:Nat):Int)
  cases hs:sMatch (y::R') with
  |inl o =>
   rw [hs] at hm
   obtain ⟨m2,z,p,tx,rfl,h1⟩:=hm
   have h1:q11k b ((m:Nat):Int) ((y.k:Nat):Int) ((y.o:Nat):Int) (baL y.s) false r dd ((d+1:Nat):Int) 7 0 noTx 0 noTx 0 []=some ((),((),((b,(((m2:Nat):Int),(((z.k:Nat):Int),(((z.o:Nat):Int),(baL z.s,(true,(r,(dd,((d+1:Nat):Int))))))))),((7,(0,(noTx,(p,(tx,0))))),[])))):=h1
   refine ⟨⟨7,[],noTx,p,tx,0⟩,stP b m2 z true r dd (d:Int),q13t ?_,m2,z,rfl,rfl⟩
   simp only [q13x,gL,dL,wI,q85,qk3,x25q,x26q,x27q,qol,q4x,q3k,q43,q164,qoo,q52,q3n,q46,q16b,qom,q4y,q4z,q3l,q44,q166,q165,q167,qon,q50,q51,q3m,q45,q169,q168,q16a,qoh,q4c,q4d,q4e,q4f,q4g,q4h,q3g,q3z,q15h,q15g,q15i,q15j,q15k,q15l,q15m,qoj,q4j,q4k,q4o,q4p,q4q,q4r,q4s,q4t,q4u,q4v,q4l,q4m,q4n,q3i,q41,q15p,q15o,q15u,q15t,q15v,q15w,q15x,q15y,q15z,q160,q161,q162,q15q,q15r,q15s,qoi,q4i,q3h,q40,q15n,x0q,x1q,x21q,x20q,q1a7,w1,w2,e0,h8',decide_false,g3,j1,j2,j3,j4,j5,j6,h1]
  |inr q =>
   rw [hs] at hm
   obtain ⟨m2,z,R2,u1,u2,h1⟩:=hm
   have h1:q11k b ((m:Nat):Int) ((y.k:Nat):Int) ((y.o:Nat):Int) (baL y.s) false r dd ((d+1:Nat):Int) 7 0 noTx 0 noTx 0 []=some ((),((),((b,(((m2:Nat):Int),(((z.k:Nat):Int),(((z.o:Nat):Int),(baL z.s,(false,(r,(dd,((d+1:Nat):Int))))))))),((7,(0,(noTx,(((q.1.1:Nat):Int),(baL q.1.2,0))))),[])))):=h1
   refine ⟨tst 7 [] [] q.1.1 q.1.2 0,stP b m2 z false r dd (d:Int),q13t ?_,rfl,m2,z,R2,u1,u2,rfl⟩
   simp only [q13x,gL,dL,wI,q85,qk3,x25q,x26q,x27q,qol,q4x,q3k,q43,q164,qoo,q52,q3n,q46,q16b,qom,q4y,q4z,q3l,q44,q166,q165,q167,qon,q50,q51,q3m,q45,q169,q168,q16a,qoh,q4c,q4d,q4e,q4f,q4g,q4h,q3g,q3z,q15h,q15g,q15i,q15j,q15k,q15l,q15m,qoj,q4j,q4k,q4o,q4p,q4q,q4r,q4s,q4t,q4u,q4v,q4l,q4m,q4n,q3i,q41,q15p,q15o,q15u,q15t,q15v,q15w,q15x,q15y,q15z,q160,q161,q162,q15q,q15r,q15s,qoi,q4i,q3h,q40,q15n,x0q,x1q,x21q,x20q,q1a7,w1,w2,e0,h8',decide_false,g3,j1,j2,j3,j4,j5,j6,h1]
   rfl
 ·have hN:testN x.s=8:=by rw [hw];rfl
  simp only [hN]
  have j1:=i1 (λe=>absurd (hw.symm.trans e.2) (by decide))
  have j2:=i2 (λe=>absurd (hw.symm.trans e.2) (by decide))
  have j3:=i3 (λe=>absurd (hw.symm.trans e.2) (by decide))
  have j4:=i4 (λe=>absurd (hw.symm.trans e.2) (by decide))
  have j5:=i5 (λe=>absurd (hw.symm.trans e.2) (by decide))
  have j6:=i6 (λe=>absurd (hw.symm.trans e.2) (by decide))
  have j7:=i7 (λe=>absurd (hw.symm.trans e.2) (by decide))
  obtain ⟨m,y,R',rfl,g2,g3⟩:=qov hb hA (k:=2) rfl (w:=wSize) (by simp [isT,hx,hw]) r dd ((d+1:Nat):Int)
  have g3:q10z 2 (ByteArray.mk (List.toArray [115,105,122,101])) b ((n:Nat):Int) ((x.k:Nat):Int) ((x.o:Nat):Int) (baL x.s) false r dd ((d+1:Nat):Int)=some (true,(true,(b,(((m:Nat):Int),(((y.k:Nat):Int),(((y.o:Nat):Int),(baL y.s,(false,(r,(dd,((d+1:Nat):Int))))))))))):=g3
  simp only [x9q] at hf hl
  have hn:=num_s hb g2 r dd ((d+1:Nat):Int)
  cases hs:sNum (y::R') with
  |inl o =>
   rw [hs] at hn
   obtain ⟨rfl,h1⟩:=hn
   have h1:q126 b ((m:Nat):Int) ((y.k:Nat):Int) ((y.o:Nat):Int) (baL y.s) false r dd ((d+1:Nat):Int)=some (0,(0,(b,(((m:Nat):Int),(((y.k:Nat):Int),(((y.o:Nat):Int),(baL y.s,(true,(r,(dd,((d+1:Nat):Int))))))))))):=h1
   refine ⟨⟨8,[],noTx,0,noTx,0⟩,stP b m y true r dd (d:Int),q13t ?_,m,y,rfl,rfl⟩
   simp only [q13x,gL,dL,wI,q85,qk3,x25q,x26q,x27q,qol,q4x,q3k,q43,q164,qoo,q52,q3n,q46,q16b,qom,q4y,q4z,q3l,q44,q166,q165,q167,qon,q50,q51,q3m,q45,q169,q168,q16a,qoh,q4c,q4d,q4e,q4f,q4g,q4h,q3g,q3z,q15h,q15g,q15i,q15j,q15k,q15l,q15m,qoj,q4j,q4k,q4o,q4p,q4q,q4r,q4s,q4t,q4u,q4v,q4l,q4m,q4n,q3i,q41,q15p,q15o,q15u,q15t,q15v,q15w,q15x,q15y,q15z,q160,q161,q162,q15q,q15r,q15s,qoi,q4i,q3h,q40,q15n,x0q,x1q,x21q,x20q,q1a7,w1,w2,e0,h8',decide_false,g3,j1,j2,j3,j4,j5,j6,j7,h1]
  |inr q =>
   rw [hs] at hn
   obtain ⟨m2,z,R2,u1,u2,h1⟩:=hn
   have h1:q126 b ((m:Nat):Int) ((y.k:Nat):Int) ((y.o:Nat):Int) (baL y.s) false r dd ((d+1:Nat):Int)=some (((q.1:Nat):Int),(((q.1:Nat):Int),(b,(((m2:Nat):Int),(((z.k:Nat):Int),(((z.o:Nat):Int),(baL z.s,(false,(r,(dd,((d+1:Nat):Int))))))))))):=h1
   refine ⟨tst 8 [] [] 0 [] q.1,stP b m2 z false r dd (d:Int),q13t ?_,rfl,m2,z,R2,u1,u2,rfl⟩
   simp only [q13x,gL,dL,wI,q85,qk3,x25q,x26q,x27q,qol,q4x,q3k,q43,q164,qoo,q52,q3n,q46,q16b,qom,q4y,q4z,q3l,q44,q166,q165,q167,qon,q50,q51,q3m,q45,q169,q168,q16a,qoh,q4c,q4d,q4e,q4f,q4g,q4h,q3g,q3z,q15h,q15g,q15i,q15j,q15k,q15l,q15m,qoj,q4j,q4k,q4o,q4p,q4q,q4r,q4s,q4t,q4u,q4v,q4l,q4m,q4n,q3i,q41,q15p,q15o,q15u,q15t,q15v,q15w,q15x,q15y,q15z,q160,q161,q162,q15q,q15r,q15s,qoi,q4i,q3h,q40,q15n,x0q,x1q,x21q,x20q,q1a7,w1,w2,e0,h8',decide_false,g3,j1,j2,j3,j4,j5,j6,j7,h1]
   rfl
 ·have hN:testN x.s=9:=by rw [hw];rfl
  simp only [hN]
  have j1:=i1 (λe=>absurd (hw.symm.trans e.2) (by decide))
  have j2:=i2 (λe=>absurd (hw.symm.trans e.2) (by decide))
  have j3:=i3 (λe=>absurd (hw.symm.trans e.2) (by decide))
  have j4:=i4 (λe=>absurd (hw.symm.trans e.2) (by decide))
  have j5:=i5 (λe=>absurd (hw.symm.trans e.2) (by decide))
  have j6:=i6 (λe=>absurd (hw.symm.trans e.2) (by decide))
  have j7:=i7 (λe=>absurd (hw.symm.trans e.2) (by decide))
  have j8:=i8 (λe=>absurd (hw.symm.trans e.2) (by decide))
  obtain ⟨m,y,R',rfl,g2,g3⟩:=qov hb hA (k:=2) rfl (w:=wExists) (by simp [isT,hx,hw]) r dd ((d+1:Nat):Int)
  have g3:q10z 2 (ByteArray.mk (List.toArray [101,120,105,115,116,115])) b ((n:Nat):Int) ((x.k:Nat):Int) ((x.o:Nat):Int) (baL x.s) false r dd ((d+1:Nat):Int)=some (true,(true,(b,(((m:Nat):Int),(((y.k:Nat):Int),(((y.o:Nat):Int),(baL y.s,(false,(r,(dd,((d+1:Nat):Int))))))))))):=g3
  simp only [x9q] at hf hl
  simp only [sTake]
  by_cases hy:y.k=1
  ·obtain ⟨m2,z,R2,rfl,q2,q3⟩:=q1d1 hb g2 (k:=1) rfl hy r dd ((d+1:Nat):Int)
   have q3:q13d 1 b ((m:Nat):Int) ((y.k:Nat):Int) ((y.o:Nat):Int) (baL y.s) false r dd ((d+1:Nat):Int)=some (baL y.s,(baL y.s,(b,(((m2:Nat):Int),(((z.k:Nat):Int),(((z.o:Nat):Int),(baL z.s,(false,(r,(dd,((d+1:Nat):Int))))))))))):=q3
   rw [if_pos hy]
   refine ⟨tst 9 [] y.s 0 [] 0,stP b m2 z false r dd (d:Int),q13t ?_,rfl,m2,z,R2,rfl,q2,rfl⟩
   simp only [q13x,gL,dL,wI,q85,qk3,x25q,x26q,x27q,qol,q4x,q3k,q43,q164,qoo,q52,q3n,q46,q16b,qom,q4y,q4z,q3l,q44,q166,q165,q167,qon,q50,q51,q3m,q45,q169,q168,q16a,qoh,q4c,q4d,q4e,q4f,q4g,q4h,q3g,q3z,q15h,q15g,q15i,q15j,q15k,q15l,q15m,qoj,q4j,q4k,q4o,q4p,q4q,q4r,q4s,q4t,q4u,q4v,q4l,q4m,q4n,q3i,q41,q15p,q15o,q15u,q15t,q15v,q15w,q15x,q15y,q15z,q160,q161,q162,q15q,q15r,q15s,qoi,q4i,q3h,q40,q15n,x0q,x1q,x21q,x20q,q1a7,w1,w2,e0,h8',decide_false,g3,j1,j2,j3,j4,j5,j6,j7,j8,q3]
   rfl
  ·have q3:=q1cz (b:=b) (n:=m) (k:=1) hy r dd ((d+1:Nat):Int)
   have q3:q13d 1 b ((m:Nat):Int) ((y.k:Nat):Int) ((y.o:Nat):Int) (baL y.s) false r dd ((d+1:Nat):Int)=some (noTx,(noTx,(b,(((m:Nat):Int),(((y.k:Nat):Int),(((y.o:Nat):Int),(baL y.s,(true,(r,(dd,((d+1:Nat):Int))))))))))):=q3
   rw [if_neg hy]
   refine ⟨⟨9,[],noTx,0,noTx,0⟩,stP b m y true r dd (d:Int),q13t ?_,m,y,rfl,rfl⟩
   simp only [q13x,gL,dL,wI,q85,qk3,x25q,x26q,x27q,qol,q4x,q3k,q43,q164,qoo,q52,q3n,q46,q16b,qom,q4y,q4z,q3l,q44,q166,q165,q167,qon,q50,q51,q3m,q45,q169,q168,q16a,qoh,q4c,q4d,q4e,q4f,q4g,q4h,q3g,q3z,q15h,q15g,q15i,q15j,q15k,q15l,q15m,qoj,q4j,q4k,q4o,q4p,q4q,q4r,q4s,q4t,q4u,q4v,q4l,q4m,q4n,q3i,q41,q15p,q15o,q15u,q15t,q15v,q15w,q15x,q15y,q15z,q160,q161,q162,q15q,q15r,q15s,qoi,q4i,q3h,q40,q15n,x0q,x1q,x21q,x20q,q1a7,w1,w2,e0,h8',decide_false,g3,j1,j2,j3,j4,j5,j6,j7,j8,q3]
theorem pt_all:∀ f,PT b f/\LL b f/\PL b f
 |0=>⟨λd n x R r dd _ _ h=>by omega,λd n x R r dd W _ _ h=>by omega,λd n x R r dd _ _ h=>by simp only [x9q] at h;omega⟩
 |f+1=>⟨qx4 b hb (pt_all f).1 (pt_all f).2.2,qqo b hb (pt_all f).1 (pt_all f).2.1,qv4 b hb (pt_all f).1 (pt_all f).2.1⟩
end
end Go.Proofs.YtmlcmoaonaomfaaGreatDoor
