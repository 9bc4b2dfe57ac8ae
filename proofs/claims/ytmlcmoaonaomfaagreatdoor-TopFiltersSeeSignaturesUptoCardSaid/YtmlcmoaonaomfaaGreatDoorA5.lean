/- The parser reads actions. -/
import Derived.Test.YtmlcmoaonaomfaaGreatDoorA4
namespace Go.Proofs.YtmlcmoaonaomfaaGreatDoor
set_option linter.unusedSimpArgs false
open Go.RowKit
theorem qw:qz1=some (baL wKeep,(baL wFile,(baL wDiscard,(baL wRedirect,(baL wReject,(baL wFlag,baL wReply)))))):=qz0 rfl
def ruA (act:Int) (tx:BA) (n:Int):S38:=⟨2,0,[],noTx,0,noTx,0,[],[],act,noTx,tx,n⟩
section
variable (b:BA) (a c o:Int) (s:BA) (bd:Bool) (r d ts:Int)
noncomputable abbrev AL (k:Int):=qzc (baL wKeep) (baL wFile) (baL wDiscard) (baL wRedirect) (baL wReject) (baL wFlag) (baL wReply) k b a c o s bd r d ts 0 0 0 noTx 0 noTx 0 0 0 0 noTx noTx 0 2 0 0 noTx 0 noTx 0 0 0 0 noTx noTx 0 [] [] [] [] [] []
theorem al_7:AL b a c o s bd r d ts 7=some (.inr (((),((),((),((baL wKeep,(baL wFile,(baL wDiscard,(baL wRedirect,(baL wReject,(baL wFlag,baL wReply)))))),(7,false))))),((b,a,c,o,s,bd,r,d,ts),((0,(0,(0,(noTx,(0,(noTx,(0,(0,(0,(0,(noTx,(noTx,0)))))))))))),((2,(0,(0,(noTx,(0,(noTx,(0,(0,(0,(0,(noTx,(noTx,0)))))))))))),([],([],([],([],([],[]))))))))) ):=by
 refine qze ?_
 simp only [qzj,gL,dL,wI,p0,q85,qk3,x25q,x26q,x27q,qol,q4x,q3k,q43,q164,qoo,q52,q3n,q46,q16b,qom,q4y,q4z,q3l,q44,q166,q165,q167,qon,q50,q51,q3m,q45,q169,q168,q16a,qoh,q4c,q4d,q4e,q4f,q4g,q4h,q3g,q3z,q15h,q15g,q15i,q15j,q15k,q15l,q15m,qoj,q4j,q4k,q4o,q4p,q4q,q4r,q4s,q4t,q4u,q4v,q4l,q4m,q4n,q3i,q41,q15p,q15o,q15u,q15t,q15v,q15w,q15x,q15y,q15z,q160,q161,q162,q15q,q15r,q15s,qoi,q4i,q3h,q40,q15n,show ¬ (7:Int)<7 by omega,decide_false,x1q,x21q,x20q]
variable {b a c o s bd r d ts}
theorem q1a {k:Nat} (hk:k<7) {w:List UInt8} (hw:[baL wKeep,baL wFile,baL wDiscard,baL wRedirect,baL wReject,baL wFlag,baL wReply].getD k ByteArray.empty=baL w) (hi:q10z 2 (baL w) b a c o s bd r d ts=some (false,(false,(b,a,c,o,s,bd,r,d,ts)))) {z}
  (hn:AL b a c o s bd r d ts ((k+1:Nat):Int)=some z):AL b a c o s bd r d ts (k:Int)=some z:=by
 have w1:IntKind.i64.wrap ((k:Int)+1)=((k+1:Nat):Int):=q1et (n:=10) (by omega) (by omega)
 refine qze ?_
 simp only [qzj,gL,dL,wI,p0,q85,qk3,x25q,x26q,x27q,qol,q4x,q3k,q43,q164,qoo,q52,q3n,q46,q16b,qom,q4y,q4z,q3l,q44,q166,q165,q167,qon,q50,q51,q3m,q45,q169,q168,q16a,qoh,q4c,q4d,q4e,q4f,q4g,q4h,q3g,q3z,q15h,q15g,q15i,q15j,q15k,q15l,q15m,qoj,q4j,q4k,q4o,q4p,q4q,q4r,q4s,q4t,q4u,q4v,q4l,q4m,q4n,q3i,q41,q15p,q15o,q15u,q15t,q15v,q15w,q15x,q15y,q15z,q160,q161,q162,q15q,q15r,q15s,qoi,q4i,q3h,q40,q15n,show (k:Int)<7 by omega,show (k:Int)<((7:Nat):Int) by omega,show (0:Int)<=(k:Int) by omega,decide_true,x3q,x9q,x8q,x13q,Nat.reduceAdd,hk,x4q,x20q,hw,hi,x0q,x11q,w1,hn]
variable {a1 c1 o1:Int} {s1:BA} {bd1:Bool} {r1 d1 ts1:Int} {a2 c2 o2:Int} {s2:BA} {bd2:Bool} {r2 d2 ts2:Int} {st3:Pst}
theorem al_num {v:Int} (hi:q10z 2 (baL wFlag) b a c o s bd r d ts=some (true,(true,(b,a1,c1,o1,s1,bd1,r1,d1,ts1))))
  (hn:q126 b a1 c1 o1 s1 bd1 r1 d1 ts1=some (v,(v,(b,a2,c2,o2,s2,bd2,r2,d2,ts2)))) (hs:q11z (baL [59]) b a2 c2 o2 s2 bd2 r2 d2 ts2=some ((),((),st3))) :
  AL b a c o s bd r d ts ((5:Nat):Int)=some (.inl ((),((2,(0,(0,(noTx,(0,(noTx,(0,(0,(0,(6,(noTx,(noTx,v)))))))))))),(st3,([],([],[])))))):=by
 have hs:q11z (ByteArray.mk (List.toArray [59])) b a2 c2 o2 s2 bd2 r2 d2 ts2=some ((),((),st3)):=hs
 have w1:IntKind.i64.wrap (((5:Nat):Int)+1)=6:=q1es (by omega)
 have hw:[baL wKeep,baL wFile,baL wDiscard,baL wRedirect,baL wReject,baL wFlag,baL wReply].getD 5 ByteArray.empty=baL wFlag:=rfl
 refine qze ?_
 simp only [qzj,gL,dL,wI,p0,q85,qk3,x25q,x26q,x27q,qol,q4x,q3k,q43,q164,qoo,q52,q3n,q46,q16b,qom,q4y,q4z,q3l,q44,q166,q165,q167,qon,q50,q51,q3m,q45,q169,q168,q16a,qoh,q4c,q4d,q4e,q4f,q4g,q4h,q3g,q3z,q15h,q15g,q15i,q15j,q15k,q15l,q15m,qoj,q4j,q4k,q4o,q4p,q4q,q4r,q4s,q4t,q4u,q4v,q4l,q4m,q4n,q3i,q41,q15p,q15o,q15u,q15t,q15v,q15w,q15x,q15y,q15z,q160,q161,q162,q15q,q15r,q15s,qoi,q4i,q3h,q40,q15n,show ((5:Nat):Int)<7 by omega,show ((5:Nat):Int)<((7:Nat):Int) by omega,show (0:Int)<=((5:Nat):Int) by omega,decide_true,x3q,x9q,x8q,x13q,Nat.reduceAdd,show 5<7 by omega,x4q,x20q,hw,hi,x0q,x15q,x1q,x21q,w1,x19q,hn,hs]
theorem al_txt {k:Nat} (hk:k<7) {w:List UInt8} (hw:[baL wKeep,baL wFile,baL wDiscard,baL wRedirect,baL wReject,baL wFlag,baL wReply].getD k ByteArray.empty=baL w) (h6:k≠5) (ht:txtB ((k+1:Nat):Int)=true) {v:BA} (hi:q10z 2 (baL w) b a c o s bd r d ts=some (true,(true,(b,a1,c1,o1,s1,bd1,r1,d1,ts1))))
  (hn:q13d 1 b a1 c1 o1 s1 bd1 r1 d1 ts1=some (v,(v,(b,a2,c2,o2,s2,bd2,r2,d2,ts2)))) (hs:q11z (baL [59]) b a2 c2 o2 s2 bd2 r2 d2 ts2=some ((),((),st3))) :
  AL b a c o s bd r d ts (k:Int)=some (.inl ((),((2,(0,(0,(noTx,(0,(noTx,(0,(0,(0,(((k+1:Nat):Int),(noTx,(v,0)))))))))))),(st3,([],([],[])))))):=by
 have hs:q11z (ByteArray.mk (List.toArray [59])) b a2 c2 o2 s2 bd2 r2 d2 ts2=some ((),((),st3)):=hs
 have w1:IntKind.i64.wrap ((k:Int)+1)=((k+1:Nat):Int):=q1et (n:=10) (by omega) (by omega)
 have e6:(((k+1:Nat):Int)==6)=false:=by simp;omega
 refine qze ?_
 simp only [qzj,gL,dL,wI,p0,q85,qk3,x25q,x26q,x27q,qol,q4x,q3k,q43,q164,qoo,q52,q3n,q46,q16b,qom,q4y,q4z,q3l,q44,q166,q165,q167,qon,q50,q51,q3m,q45,q169,q168,q16a,qoh,q4c,q4d,q4e,q4f,q4g,q4h,q3g,q3z,q15h,q15g,q15i,q15j,q15k,q15l,q15m,qoj,q4j,q4k,q4o,q4p,q4q,q4r,q4s,q4t,q4u,q4v,q4l,q4m,q4n,q3i,q41,q15p,q15o,q15u,q15t,q15v,q15w,q15x,q15y,q15z,q160,q161,q162,q15q,q15r,q15s,qoi,q4i,q3h,q40,q15n,show (k:Int)<7 by omega,show (k:Int)<((7:Nat):Int) by omega,show (0:Int)<=(k:Int) by omega,decide_true,x3q,x9q,x8q,x13q,Nat.reduceAdd,hk,x4q,x20q,hw,hi,x0q,x15q,x1q,x21q,w1,e6,q1d7,ht,hn,hs]
theorem al_pl {k:Nat} (hk:k<7) {w:List UInt8} (hw:[baL wKeep,baL wFile,baL wDiscard,baL wRedirect,baL wReject,baL wFlag,baL wReply].getD k ByteArray.empty=baL w) (h6:k≠5) (ht:txtB ((k+1:Nat):Int)=false) (hi:q10z 2 (baL w) b a c o s bd r d ts=some (true,(true,(b,a1,c1,o1,s1,bd1,r1,d1,ts1))))
  (hs:q11z (baL [59]) b a1 c1 o1 s1 bd1 r1 d1 ts1=some ((),((),st3))) :
  AL b a c o s bd r d ts (k:Int)=some (.inl ((),((2,(0,(0,(noTx,(0,(noTx,(0,(0,(0,(((k+1:Nat):Int),(noTx,(noTx,0)))))))))))),(st3,([],([],[])))))):=by
 have hs:q11z (ByteArray.mk (List.toArray [59])) b a1 c1 o1 s1 bd1 r1 d1 ts1=some ((),((),st3)):=hs
 have w1:IntKind.i64.wrap ((k:Int)+1)=((k+1:Nat):Int):=q1et (n:=10) (by omega) (by omega)
 have e6:(((k+1:Nat):Int)==6)=false:=by simp;omega
 refine qze ?_
 simp only [qzj,gL,dL,wI,p0,q85,qk3,x25q,x26q,x27q,qol,q4x,q3k,q43,q164,qoo,q52,q3n,q46,q16b,qom,q4y,q4z,q3l,q44,q166,q165,q167,qon,q50,q51,q3m,q45,q169,q168,q16a,qoh,q4c,q4d,q4e,q4f,q4g,q4h,q3g,q3z,q15h,q15g,q15i,q15j,q15k,q15l,q15m,qoj,q4j,q4k,q4o,q4p,q4q,q4r,q4s,q4t,q4u,q4v,q4l,q4m,q4n,q3i,q41,q15p,q15o,q15u,q15t,q15v,q15w,q15x,q15y,q15z,q160,q161,q162,q15q,q15r,q15s,qoi,q4i,q3h,q40,q15n,show (k:Int)<7 by omega,show (k:Int)<((7:Nat):Int) by omega,show (0:Int)<=(k:Int) by omega,decide_true,x3q,x9q,x8q,x13q,Nat.reduceAdd,hk,x4q,x20q,hw,hi,x0q,x15q,x1q,x21q,w1,e6,q1d7,ht,hs]
theorem qt {act n:Int} {tx:BA} {st:Pst} (h:AL b a c o s bd r d ts 0=some (.inl ((),((2,(0,(0,(noTx,(0,(noTx,(0,(0,(0,(act,(noTx,(tx,n)))))))))))),(st,([],([],[]))))))) :
  qz9 b a c o s bd r d ts=some (tupR (ruA act tx n),(tupR (ruA act tx n),st)):=by
 have e0:qcu.decL []=[]:=rfl
 have e1:qcw.decL []=[]:=rfl
 unfold AL at h
 refine qzb ?_
 simp only [qzn,gL,dL,q85,qk3,x25q,x26q,x27q,qol,q4x,q3k,q43,q164,qoo,q52,q3n,q46,q16b,qom,q4y,q4z,q3l,q44,q166,q165,q167,qon,q50,q51,q3m,q45,q169,q168,q16a,qoh,q4c,q4d,q4e,q4f,q4g,q4h,q3g,q3z,q15h,q15g,q15i,q15j,q15k,q15l,q15m,qoj,q4j,q4k,q4o,q4p,q4q,q4r,q4s,q4t,q4u,q4v,q4l,q4m,q4n,q3i,q41,q15p,q15o,q15u,q15t,q15v,q15w,q15x,q15y,q15z,q160,q161,q162,q15q,q15r,q15s,qoi,q4i,q3h,q40,q15n,qw,x0q,e0,e1,x20q,h,Sum.elim_inl]
 rfl
theorem qu (h:AL b a c o s bd r d ts 0=some (.inr (((),((),((),((baL wKeep,(baL wFile,(baL wDiscard,(baL wRedirect,(baL wReject,(baL wFlag,baL wReply)))))),(7,false))))),((b,a,c,o,s,bd,r,d,ts),((0,(0,(0,(noTx,(0,(noTx,(0,(0,(0,(0,(noTx,(noTx,0)))))))))))),((2,(0,(0,(noTx,(0,(noTx,(0,(0,(0,(0,(noTx,(noTx,0)))))))))))),([],([],([],([],([],[]))))))))) )) :
  qz9 b a c o s bd r d ts=some (tupR (ruA 0 noTx 0),(tupR (ruA 0 noTx 0),(b,a,c,o,s,true,r,d,ts))):=by
 have e0:qcu.decL []=[]:=rfl
 have e1:qcw.decL []=[]:=rfl
 unfold AL at h
 refine qzb ?_
 simp only [qzn,gL,dL,q85,qk3,x25q,x26q,x27q,qol,q4x,q3k,q43,q164,qoo,q52,q3n,q46,q16b,qom,q4y,q4z,q3l,q44,q166,q165,q167,qon,q50,q51,q3m,q45,q169,q168,q16a,qoh,q4c,q4d,q4e,q4f,q4g,q4h,q3g,q3z,q15h,q15g,q15i,q15j,q15k,q15l,q15m,qoj,q4j,q4k,q4o,q4p,q4q,q4r,q4s,q4t,q4u,q4v,q4l,q4m,q4n,q3i,q41,q15p,q15o,q15u,q15t,q15v,q15w,q15x,q15y,q15z,q160,q161,q162,q15q,q15r,q15s,qoi,q4i,q3h,q40,q15n,qw,x0q,e0,e1,x20q,h,Sum.elim_inr]
 rfl
end
section
variable (b:BA) (hb:b.size<=4000)
def PRO (d:Nat) (sp:Nat⊕(S38×List Tok×Nat)) (t:S38) (st:Pst):Prop:=match sp with
 |.inr y=>t=y.1/\y.2.2<=100/\∃ n z R,y.2.1=z::R/\At b n z R/\st=stP b n z false ((y.2.2:Nat):Int) (d:Int) 0
 |.inl o=>∃ n z r,z.o=o/\st=stP b n z true r (d:Int) 0
def actSpec (m:Nat) (x:Tok) (r:List Tok):Nat⊕(S38×List Tok×Nat) :=
 if actN x.s=0 then .inl x.o
 else if actN x.s=6 then thn (sNum r) λa=>thn (sNeed [59] a.2) λr1=>.inr (rul 2 t0 [] [] 6 [] [] a.1,r1,m+1)
 else if txtB (actN x.s)=true then thn (sTake 1 r) λa=>thn (sNeed [59] a.2) λr1=>.inr (rul 2 t0 [] [] (actN x.s) [] a.1 0,r1,m+1)
 else thn (sNeed [59] r) λr1=>.inr (rul 2 t0 [] [] (actN x.s) [] [] 0,r1,m+1)
theorem qv {d m n:Nat} {x:Tok} {R:List Tok} (h:¬ (x.k=2/\actN x.s≠0)):qz9 b ((n:Nat):Int) ((x.k:Nat):Int) ((x.o:Nat):Int) (baL x.s) false ((m+1:Nat):Int) (d:Int) 0=some (tupR (ruA 0 noTx 0),(tupR (ruA 0 noTx 0),(b,(((n:Nat):Int),(((x.k:Nat):Int),(((x.o:Nat):Int),(baL x.s,(true,(((m+1:Nat):Int),((d:Int),0)))))))))):=by
 have nos:∀ w:List UInt8,actN w≠0->q10z 2 (baL w) b ((n:Nat):Int) ((x.k:Nat):Int) ((x.o:Nat):Int) (baL x.s) false ((m+1:Nat):Int) (d:Int) 0=some (false,(false,(b,(((n:Nat):Int),(((x.k:Nat):Int),(((x.o:Nat):Int),(baL x.s,(false,(((m+1:Nat):Int),((d:Int),0)))))))))):=λw hw =>
  is_no (k:=2) (R:=R) (by simp only [isT,Bool.and_eq_false_iff,beq_eq_false_iff_ne];by_cases e:x.k=2;exact .inr (λe2=>h ⟨e,by rw [e2];exact hw⟩);exact .inl e) _ _ _
 exact qu (q1a (k:=0) (by omega) (w:=wKeep) rfl (nos _ (by decide)) (q1a (k:=1) (by omega) (w:=wFile) rfl (nos _ (by decide)) (q1a (k:=2) (by omega) (w:=wDiscard) rfl (nos _ (by decide)) (q1a (k:=3) (by omega) (w:=wRedirect) rfl (nos _ (by decide)) (q1a (k:=4) (by omega) (w:=wReject) rfl (nos _ (by decide)) (q1a (k:=5) (by omega) (w:=wFlag) rfl (nos _ (by decide)) (q1a (k:=6) (by omega) (w:=wReply) rfl (nos _ (by decide)) (al_7 _ _ _ _ _ _ _ _ _))))))))
include hb
theorem qs {m d n1:Nat} {z:Tok} {R1:List Tok} {bd1:Bool} (hm:m+1<=100) (hA1:At b n1 z R1) (hbd:bd1=false) (t:S38) (K:Pst->Prop)
  (hK:∀ st3,q11z (baL [59]) b ((n1:Nat):Int) ((z.k:Nat):Int) ((z.o:Nat):Int) (baL z.s) bd1 ((m+1:Nat):Int) (d:Int) 0=some ((),((),st3))->K st3):∃ st,K st/\PRO b d (thn (sNeed [59] (z::R1)) λr1=>.inr (t,r1,m+1)) t st:=by
 subst hbd
 simp only [sNeed]
 cases hc:isT 4 [59] (z::R1) with
 |false=>exact ⟨_,hK _ (qt4 hc _ _ _),n1,z,_,rfl,rfl⟩
 |true =>
  obtain ⟨n2,z2,R2,rfl,q2,q3⟩:=qt5 hb hA1 hc ((m+1:Nat):Int) (d:Int) 0
  exact ⟨_,hK _ q3,rfl,hm,n2,z2,R2,rfl,q2,rfl⟩
theorem act_s {d m n:Nat} {x:Tok} {R:List Tok} (hA:At b n x R) (hm:m+1<=100) (hx:x.k=2) :
  ∃ t st,qz9 b ((n:Nat):Int) ((x.k:Nat):Int) ((x.o:Nat):Int) (baL x.s) false ((m+1:Nat):Int) (d:Int) 0=some (tupR t,(tupR t,st))/\PRO b d (actSpec m x R) t st:=by
 unfold actSpec
 by_cases h0:actN x.s=0
 ·rw [if_pos h0]
  exact ⟨_,_,qv b (R:=R) (λe=>e.2 h0),n,x,_,rfl,rfl⟩
 rw [if_neg h0]
 have nos:∀ w:List UInt8,x.s≠w->q10z 2 (baL w) b ((n:Nat):Int) ((x.k:Nat):Int) ((x.o:Nat):Int) (baL x.s) false ((m+1:Nat):Int) (d:Int) 0=some (false,(false,(b,(((n:Nat):Int),(((x.k:Nat):Int),(((x.o:Nat):Int),(baL x.s,(false,(((m+1:Nat):Int),((d:Int),0)))))))))):=λw hw =>
  is_no (k:=2) (R:=R) (by simp only [isT,Bool.and_eq_false_iff,beq_eq_false_iff_ne];exact .inr hw) _ _ _
 have hwds:x.s=wKeep∨x.s=wFile∨x.s=wDiscard∨x.s=wRedirect∨x.s=wReject∨x.s=wFlag∨x.s=wReply:=by
  unfold actN at h0
  by_cases q1:x.s=wKeep;· exact .inl q1
  by_cases q2:x.s=wFile;· exact .inr (.inl q2)
  by_cases q3:x.s=wDiscard;· exact .inr (.inr (.inl q3))
  by_cases q4:x.s=wRedirect;· exact .inr (.inr (.inr (.inl q4)))
  by_cases q5:x.s=wReject;· exact .inr (.inr (.inr (.inr (.inl q5))))
  by_cases q6:x.s=wFlag;· exact .inr (.inr (.inr (.inr (.inr (.inl q6)))))
  by_cases q7:x.s=wReply;· exact .inr (.inr (.inr (.inr (.inr (.inr (q7))))))
  simp [q1,q2,q3,q4,q5,q6,q7] at h0
 rcases hwds with hw|hw|hw|hw|hw|hw|hw
 ·have hN:actN x.s=1:=by rw [hw];rfl
  simp only [hN]
  obtain ⟨n1,y,R',rfl,g2,g3⟩:=qov hb hA (k:=2) rfl (w:=wKeep) (by simp [isT,hx,hw]) ((m+1:Nat):Int) (d:Int) 0
  have g3:q10z 2 (baL wKeep) b ((n:Nat):Int) ((x.k:Nat):Int) ((x.o:Nat):Int) (baL x.s) false ((m+1:Nat):Int) (d:Int) 0=some (true,(true,(b,(((n1:Nat):Int),(((y.k:Nat):Int),(((y.o:Nat):Int),(baL y.s,(false,(((m+1:Nat):Int),((d:Int),0)))))))))):=g3
  rw [if_neg (by decide),if_neg (by decide)]
  obtain ⟨st,k1,k2⟩:=qs b hb hm g2 rfl (rul 2 t0 [] [] 1 [] [] 0) (λst=>qz9 b ((n:Nat):Int) ((x.k:Nat):Int) ((x.o:Nat):Int) (baL x.s) false ((m+1:Nat):Int) (d:Int) 0=some (tupR (ruA 1 noTx 0),(tupR (ruA 1 noTx 0),st))) (λst3 q4=>qt (al_pl (k:=0) (by omega) (w:=wKeep) rfl (by omega) rfl g3 q4))
  exact ⟨_,st,k1,k2⟩
 ·have hN:actN x.s=2:=by rw [hw];rfl
  simp only [hN]
  obtain ⟨n1,y,R',rfl,g2,g3⟩:=qov hb hA (k:=2) rfl (w:=wFile) (by simp [isT,hx,hw]) ((m+1:Nat):Int) (d:Int) 0
  have g3:q10z 2 (baL wFile) b ((n:Nat):Int) ((x.k:Nat):Int) ((x.o:Nat):Int) (baL x.s) false ((m+1:Nat):Int) (d:Int) 0=some (true,(true,(b,(((n1:Nat):Int),(((y.k:Nat):Int),(((y.o:Nat):Int),(baL y.s,(false,(((m+1:Nat):Int),((d:Int),0)))))))))):=g3
  rw [if_neg (by decide),if_pos (by decide)]
  simp only [sTake]
  by_cases hy:y.k=1
  ·obtain ⟨n2,z,R2,rfl,q2,q3⟩:=q1d1 hb g2 (k:=1) rfl hy ((m+1:Nat):Int) (d:Int) 0
   rw [if_pos hy]
   dsimp only [thn]
   obtain ⟨st,k1,k2⟩:=qs b hb hm q2 rfl (rul 2 t0 [] [] 2 [] y.s 0) (λst=>qz9 b ((n:Nat):Int) ((x.k:Nat):Int) ((x.o:Nat):Int) (baL x.s) false ((m+1:Nat):Int) (d:Int) 0=some (tupR (ruA 2 (baL y.s) 0),(tupR (ruA 2 (baL y.s) 0),st))) (λst3 q4=>qt (q1a (k:=0) (by omega) (w:=wKeep) rfl (nos _ (λe=>absurd (hw.symm.trans e) (by decide))) (al_txt (k:=1) (by omega) (w:=wFile) rfl (by omega) rfl g3 q3 q4)))
   exact ⟨_,st,k1,k2⟩
  ·have q3:=q1cz (b:=b) (n:=n1) (k:=1) hy ((m+1:Nat):Int) (d:Int) 0
   rw [if_neg hy]
   exact ⟨_,_,qt (q1a (k:=0) (by omega) (w:=wKeep) rfl (nos _ (λe=>absurd (hw.symm.trans e) (by decide))) (al_txt (k:=1) (by omega) (w:=wFile) rfl (by omega) rfl g3 q3 (qt3 _ _ _ _ _ _ _ _ _))),n1,y,_,rfl,rfl⟩
 ·have hN:actN x.s=3:=by rw [hw];rfl
  simp only [hN]
  obtain ⟨n1,y,R',rfl,g2,g3⟩:=qov hb hA (k:=2) rfl (w:=wDiscard) (by simp [isT,hx,hw]) ((m+1:Nat):Int) (d:Int) 0
  have g3:q10z 2 (baL wDiscard) b ((n:Nat):Int) ((x.k:Nat):Int) ((x.o:Nat):Int) (baL x.s) false ((m+1:Nat):Int) (d:Int) 0=some (true,(true,(b,(((n1:Nat):Int),(((y.k:Nat):Int),(((y.o:Nat):Int),(baL y.s,(false,(((m+1:Nat):Int),((d:Int),0)))))))))):=g3
  rw [if_neg (by decide),if_neg (by decide)]
  obtain ⟨st,k1,k2⟩:=qs b hb hm g2 rfl (rul 2 t0 [] [] 3 [] [] 0) (λst=>qz9 b ((n:Nat):Int) ((x.k:Nat):Int) ((x.o:Nat):Int) (baL x.s) false ((m+1:Nat):Int) (d:Int) 0=some (tupR (ruA 3 noTx 0),(tupR (ruA 3 noTx 0),st))) (λst3 q4=>qt (q1a (k:=0) (by omega) (w:=wKeep) rfl (nos _ (λe=>absurd (hw.symm.trans e) (by decide))) (q1a (k:=1) (by omega) (w:=wFile) rfl (nos _ (λe=>absurd (hw.symm.trans e) (by decide))) (al_pl (k:=2) (by omega) (w:=wDiscard) rfl (by omega) rfl g3 q4))))
  exact ⟨_,st,k1,k2⟩
 ·have hN:actN x.s=4:=by rw [hw];rfl
  simp only [hN]
  obtain ⟨n1,y,R',rfl,g2,g3⟩:=qov hb hA (k:=2) rfl (w:=wRedirect) (by simp [isT,hx,hw]) ((m+1:Nat):Int) (d:Int) 0
  have g3:q10z 2 (baL wRedirect) b ((n:Nat):Int) ((x.k:Nat):Int) ((x.o:Nat):Int) (baL x.s) false ((m+1:Nat):Int) (d:Int) 0=some (true,(true,(b,(((n1:Nat):Int),(((y.k:Nat):Int),(((y.o:Nat):Int),(baL y.s,(false,(((m+1:Nat):Int),((d:Int),0)))))))))):=g3
  rw [if_neg (by decide),if_pos (by decide)]
  simp only [sTake]
  by_cases hy:y.k=1
  ·obtain ⟨n2,z,R2,rfl,q2,q3⟩:=q1d1 hb g2 (k:=1) rfl hy ((m+1:Nat):Int) (d:Int) 0
   rw [if_pos hy]
   dsimp only [thn]
   obtain ⟨st,k1,k2⟩:=qs b hb hm q2 rfl (rul 2 t0 [] [] 4 [] y.s 0) (λst=>qz9 b ((n:Nat):Int) ((x.k:Nat):Int) ((x.o:Nat):Int) (baL x.s) false ((m+1:Nat):Int) (d:Int) 0=some (tupR (ruA 4 (baL y.s) 0),(tupR (ruA 4 (baL y.s) 0),st))) (λst3 q4=>qt (q1a (k:=0) (by omega) (w:=wKeep) rfl (nos _ (λe=>absurd (hw.symm.trans e) (by decide))) (q1a (k:=1) (by omega) (w:=wFile) rfl (nos _ (λe=>absurd (hw.symm.trans e) (by decide))) (q1a (k:=2) (by omega) (w:=wDiscard) rfl (nos _ (λe=>absurd (hw.symm.trans e) (by decide))) (al_txt (k:=3) (by omega) (w:=wRedirect) rfl (by omega) rfl g3 q3 q4)))))
   exact ⟨_,st,k1,k2⟩
  ·have q3:=q1cz (b:=b) (n:=n1) (k:=1) hy ((m+1:Nat):Int) (d:Int) 0
   rw [if_neg hy]
   exact ⟨_,_,qt (q1a (k:=0) (by omega) (w:=wKeep) rfl (nos _ (λe=>absurd (hw.symm.trans e) (by decide))) (q1a (k:=1) (by omega) (w:=wFile) rfl (nos _ (λe=>absurd (hw.symm.trans e) (by decide))) (q1a (k:=2) (by omega) (w:=wDiscard) rfl (nos _ (λe=>absurd (hw.symm.trans e) (by decide))) (al_txt (k:=3) (by omega) (w:=wRedirect) rfl (by omega) rfl g3 q3 (qt3 _ _ _ _ _ _ _ _ _))))),n1,y,_,rfl,rfl⟩
 ·have hN:actN x.s=5:=by rw [hw];rfl
  simp only [hN]
  obtain ⟨n1,y,R',rfl,g2,g3⟩:=qov hb hA (k:=2) rfl (w:=wReject) (by simp [isT,hx,hw]) ((m+1:Nat):Int) (d:Int) 0
  have g3:q10z 2 (baL wReject) b ((n:Nat):Int) ((x.k:Nat):Int) ((x.o:Nat):Int) (baL x.s) false ((m+1:Nat):Int) (d:Int) 0=some (true,(true,(b,(((n1:Nat):Int),(((y.k:Nat):Int),(((y.o:Nat):Int),(baL y.s,(false,(((m+1:Nat):Int),((d:Int),0)))))))))):=g3
  rw [if_neg (by decide),if_pos (by decide)]
  simp only [sTake]
  by_cases hy:y.k=1
  ·obtain ⟨n2,z,R2,rfl,q2,q3⟩:=q1d1 hb g2 (k:=1) rfl hy ((m+1:Nat):Int) (d:Int) 0
   rw [if_pos hy]
   dsimp only [thn]
   obtain ⟨st,k1,k2⟩:=qs b hb hm q2 rfl (rul 2 t0 [] [] 5 [] y.s 0) (λst=>qz9 b ((n:Nat):Int) ((x.k:Nat):Int) ((x.o:Nat):Int) (baL x.s) false ((m+1:Nat):Int) (d:Int) 0=some (tupR (ruA 5 (baL y.s) 0),(tupR (ruA 5 (baL y.s) 0),st))) (λst3 q4=>qt (q1a (k:=0) (by omega) (w:=wKeep) rfl (nos _ (λe=>absurd (hw.symm.trans e) (by decide))) (q1a (k:=1) (by omega) (w:=wFile) rfl (nos _ (λe=>absurd (hw.symm.trans e) (by decide))) (q1a (k:=2) (by omega) (w:=wDiscard) rfl (nos _ (λe=>absurd (hw.symm.trans e) (by decide))) (q1a (k:=3) (by omega) (w:=wRedirect) rfl (nos _ (λe=>absurd (hw.symm.trans e) (by decide))) (al_txt (k:=4) (by omega) (w:=wReject) rfl (by omega) rfl g3 q3 q4))))))
   exact ⟨_,st,k1,k2⟩
  ·have q3:=q1cz (b:=b) (n:=n1) (k:=1) hy ((m+1:Nat):Int) (d:Int) 0
   rw [if_neg hy]
   exact ⟨_,_,qt (q1a (k:=0) (by omega) (w:=wKeep) rfl (nos _ (λe=>absurd (hw.symm.trans e) (by decide))) (q1a (k:=1) (by omega) (w:=wFile) rfl (nos _ (λe=>absurd (hw.symm.trans e) (by decide))) (q1a (k:=2) (by omega) (w:=wDiscard) rfl (nos _ (λe=>absurd (hw.symm.trans e) (by decide))) (q1a (k:=3) (by omega) (w:=wRedirect) rfl (nos _ (λe=>absurd (hw.symm.trans e) (by decide))) (al_txt (k:=4) (by omega) (w:=wReject) rfl (by omega) rfl g3 q3 (qt3 _ _ _ _ _ _ _ _ _)))))),n1,y,_,rfl,rfl⟩
 ·have hN:actN x.s=6:=by rw [hw];rfl
  simp only [hN]
  obtain ⟨n1,y,R',rfl,g2,g3⟩:=qov hb hA (k:=2) rfl (w:=wFlag) (by simp [isT,hx,hw]) ((m+1:Nat):Int) (d:Int) 0
  have g3:q10z 2 (baL wFlag) b ((n:Nat):Int) ((x.k:Nat):Int) ((x.o:Nat):Int) (baL x.s) false ((m+1:Nat):Int) (d:Int) 0=some (true,(true,(b,(((n1:Nat):Int),(((y.k:Nat):Int),(((y.o:Nat):Int),(baL y.s,(false,(((m+1:Nat):Int),((d:Int),0)))))))))):=g3
  have hn:=num_s hb g2 ((m+1:Nat):Int) (d:Int) 0
  cases hs:sNum (y::R') with
  |inl o =>
   rw [hs] at hn
   obtain ⟨rfl,h1⟩:=hn
   exact ⟨_,_,qt (q1a (k:=0) (by omega) (w:=wKeep) rfl (nos _ (λe=>absurd (hw.symm.trans e) (by decide))) (q1a (k:=1) (by omega) (w:=wFile) rfl (nos _ (λe=>absurd (hw.symm.trans e) (by decide))) (q1a (k:=2) (by omega) (w:=wDiscard) rfl (nos _ (λe=>absurd (hw.symm.trans e) (by decide))) (q1a (k:=3) (by omega) (w:=wRedirect) rfl (nos _ (λe=>absurd (hw.symm.trans e) (by decide))) (q1a (k:=4) (by omega) (w:=wReject) rfl (nos _ (λe=>absurd (hw.symm.trans e) (by decide))) (al_num g3 h1 (qt3 _ _ _ _ _ _ _ _ _))))))),n1,y,_,rfl,rfl⟩
  |inr q =>
   rw [hs] at hn
   obtain ⟨n2,z,R2,j1,j2,h1⟩:=hn
   dsimp only [thn]
   rw [j1]
   obtain ⟨st,k1,k2⟩:=qs b hb hm j2 rfl (rul 2 t0 [] [] 6 [] [] q.1) (λst=>qz9 b ((n:Nat):Int) ((x.k:Nat):Int) ((x.o:Nat):Int) (baL x.s) false ((m+1:Nat):Int) (d:Int) 0=some (tupR (ruA 6 noTx ((q.1:Nat):Int)),(tupR (ruA 6 noTx ((q.1:Nat):Int)),st))) (λst3 q3=>qt (q1a (k:=0) (by omega) (w:=wKeep) rfl (nos _ (λe=>absurd (hw.symm.trans e) (by decide))) (q1a (k:=1) (by omega) (w:=wFile) rfl (nos _ (λe=>absurd (hw.symm.trans e) (by decide))) (q1a (k:=2) (by omega) (w:=wDiscard) rfl (nos _ (λe=>absurd (hw.symm.trans e) (by decide))) (q1a (k:=3) (by omega) (w:=wRedirect) rfl (nos _ (λe=>absurd (hw.symm.trans e) (by decide))) (q1a (k:=4) (by omega) (w:=wReject) rfl (nos _ (λe=>absurd (hw.symm.trans e) (by decide))) (al_num g3 h1 q3)))))))
   exact ⟨_,st,k1,k2⟩
 ·have hN:actN x.s=7:=by rw [hw];rfl
  simp only [hN]
  obtain ⟨n1,y,R',rfl,g2,g3⟩:=qov hb hA (k:=2) rfl (w:=wReply) (by simp [isT,hx,hw]) ((m+1:Nat):Int) (d:Int) 0
  have g3:q10z 2 (baL wReply) b ((n:Nat):Int) ((x.k:Nat):Int) ((x.o:Nat):Int) (baL x.s) false ((m+1:Nat):Int) (d:Int) 0=some (true,(true,(b,(((n1:Nat):Int),(((y.k:Nat):Int),(((y.o:Nat):Int),(baL y.s,(false,(((m+1:Nat):Int),((d:Int),0)))))))))):=g3
  rw [if_neg (by decide),if_pos (by decide)]
  simp only [sTake]
  by_cases hy:y.k=1
  ·obtain ⟨n2,z,R2,rfl,q2,q3⟩:=q1d1 hb g2 (k:=1) rfl hy ((m+1:Nat):Int) (d:Int) 0
   rw [if_pos hy]
   dsimp only [thn]
   obtain ⟨st,k1,k2⟩:=qs b hb hm q2 rfl (rul 2 t0 [] [] 7 [] y.s 0) (λst=>qz9 b ((n:Nat):Int) ((x.k:Nat):Int) ((x.o:Nat):Int) (baL x.s) false ((m+1:Nat):Int) (d:Int) 0=some (tupR (ruA 7 (baL y.s) 0),(tupR (ruA 7 (baL y.s) 0),st))) (λst3 q4=>qt (q1a (k:=0) (by omega) (w:=wKeep) rfl (nos _ (λe=>absurd (hw.symm.trans e) (by decide))) (q1a (k:=1) (by omega) (w:=wFile) rfl (nos _ (λe=>absurd (hw.symm.trans e) (by decide))) (q1a (k:=2) (by omega) (w:=wDiscard) rfl (nos _ (λe=>absurd (hw.symm.trans e) (by decide))) (q1a (k:=3) (by omega) (w:=wRedirect) rfl (nos _ (λe=>absurd (hw.symm.trans e) (by decide))) (q1a (k:=4) (by omega) (w:=wReject) rfl (nos _ (λe=>absurd (hw.symm.trans e) (by decide))) (q1a (k:=5) (by omega) (w:=wFlag) rfl (nos _ (λe=>absurd (hw.symm.trans e) (by decide))) (al_txt (k:=6) (by omega) (w:=wReply) rfl (by omega) rfl g3 q3 q4))))))))
   exact ⟨_,st,k1,k2⟩
  ·have q3:=q1cz (b:=b) (n:=n1) (k:=1) hy ((m+1:Nat):Int) (d:Int) 0
   rw [if_neg hy]
   exact ⟨_,_,qt (q1a (k:=0) (by omega) (w:=wKeep) rfl (nos _ (λe=>absurd (hw.symm.trans e) (by decide))) (q1a (k:=1) (by omega) (w:=wFile) rfl (nos _ (λe=>absurd (hw.symm.trans e) (by decide))) (q1a (k:=2) (by omega) (w:=wDiscard) rfl (nos _ (λe=>absurd (hw.symm.trans e) (by decide))) (q1a (k:=3) (by omega) (w:=wRedirect) rfl (nos _ (λe=>absurd (hw.symm.trans e) (by decide))) (q1a (k:=4) (by omega) (w:=wReject) rfl (nos _ (λe=>absurd (hw.symm.trans e) (by decide))) (q1a (k:=5) (by omega) (w:=wFlag) rfl (nos _ (λe=>absurd (hw.symm.trans e) (by decide))) (al_txt (k:=6) (by omega) (w:=wReply) rfl (by omega) rfl g3 q3 (qt3 _ _ _ _ _ _ _ _ _)))))))),n1,y,_,rfl,rfl⟩
end
end Go.Proofs.YtmlcmoaonaomfaaGreatDoor
