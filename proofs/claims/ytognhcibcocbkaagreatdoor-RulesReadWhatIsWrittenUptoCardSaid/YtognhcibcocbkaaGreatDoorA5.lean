/- The parser reads actions. -/
import Derived.Test.YtognhcibcocbkaaGreatDoorA4
namespace Go.Proofs.YtognhcibcocbkaaGreatDoor
open Go.RowKit
theorem qt:qia=some (baL wKeep,(baL wFile,(baL wDiscard,(baL wRedirect,(baL wReject,(baL wFlag,baL wReply)))))):=qi9 rfl
def ruA (act:Int) (tx:ByteArray) (n:Int):S59:=⟨2,0,[],noTx,0,noTx,0,[],[],act,noTx,tx,n⟩
section
variable (b:ByteArray) (a c o:Int) (s:ByteArray) (bd:Bool) (r d ts:Int)
noncomputable abbrev AL (k:Int):=qke (baL wKeep) (baL wFile) (baL wDiscard) (baL wRedirect) (baL wReject) (baL wFlag) (baL wReply) k b a c o s bd r d ts 0 0 0 noTx 0 noTx 0 0 0 0 noTx noTx 0 2 0 0 noTx 0 noTx 0 0 0 0 noTx noTx 0 [] [] [] [] [] []
theorem al_7:AL b a c o s bd r d ts 7=some (.inr (((),((),((),((baL wKeep,(baL wFile,(baL wDiscard,(baL wRedirect,(baL wReject,(baL wFlag,baL wReply)))))),(7,false))))),((b,a,c,o,s,bd,r,d,ts),((0,(0,(0,(noTx,(0,(noTx,(0,(0,(0,(0,(noTx,(noTx,0)))))))))))),((2,(0,(0,(noTx,(0,(noTx,(0,(0,(0,(0,(noTx,(noTx,0)))))))))))),([],([],([],([],([],[]))))))))) ):=by
 refine qkg ?_
 simp only [qkl,gL,dL,wI,p0,q3l,q8h,EC.decL_encL,EC.isL_encL,show ¬ (7:Int)<7 by omega,decide_false,Bool.false_eq_true,if_false,if_true]
variable {b a c o s bd r d ts}
theorem q16 {k:Nat} (hk:k<7) {w:List UInt8} (hw:[baL wKeep,baL wFile,baL wDiscard,baL wRedirect,baL wReject,baL wFlag,baL wReply].getD k ByteArray.empty=baL w) (hi:qm1 2 (baL w) b a c o s bd r d ts=some (false,(false,(b,a,c,o,s,bd,r,d,ts)))) {z}
  (hn:AL b a c o s bd r d ts ((k+1:Nat):Int)=some z):AL b a c o s bd r d ts (k:Int)=some z:=by
 have w1:IntKind.i64.wrap ((k:Int)+1)=((k+1:Nat):Int):=qvt (n:=10) (by omega) (by omega)
 refine qkg ?_
 simp only [qkl,gL,dL,wI,p0,q3l,q8h,EC.decL_encL,EC.isL_encL,show (k:Int)<7 by omega,show (k:Int)<((7:Nat):Int) by omega,show (0:Int)≤(k:Int) by omega,decide_true,Int.toNat_natCast,List.length_cons,List.length_nil,Nat.zero_add,Nat.reduceAdd,hk,Bool.and_self,if_true,hw,hi,Option.bind_some,Bool.not_false,w1,hn]
variable {a1 c1 o1:Int} {s1:ByteArray} {bd1:Bool} {r1 d1 ts1:Int} {a2 c2 o2:Int} {s2:ByteArray} {bd2:Bool} {r2 d2 ts2:Int} {st3:Pst}
theorem al_num {v:Int} (hi:qm1 2 (baL wFlag) b a c o s bd r d ts=some (true,(true,(b,a1,c1,o1,s1,bd1,r1,d1,ts1))))
  (hn:qn8 b a1 c1 o1 s1 bd1 r1 d1 ts1=some (v,(v,(b,a2,c2,o2,s2,bd2,r2,d2,ts2)))) (hs:qn1 (baL [59]) b a2 c2 o2 s2 bd2 r2 d2 ts2=some ((),((),st3))) :
  AL b a c o s bd r d ts ((5:Nat):Int)=some (.inl ((),((2,(0,(0,(noTx,(0,(noTx,(0,(0,(0,(6,(noTx,(noTx,v)))))))))))),(st3,([],([],[])))))):=by
 have hs:qn1 (ByteArray.mk (List.toArray [(59:UInt8)])) b a2 c2 o2 s2 bd2 r2 d2 ts2=some ((),((),st3)):=hs
 have w1:IntKind.i64.wrap (((5:Nat):Int)+1)=6:=qvs (by omega)
 have hw:[baL wKeep,baL wFile,baL wDiscard,baL wRedirect,baL wReject,baL wFlag,baL wReply].getD 5 ByteArray.empty=baL wFlag:=rfl
 refine qkg ?_
 simp only [qkl,gL,dL,wI,p0,q3l,q8h,EC.decL_encL,EC.isL_encL,show ((5:Nat):Int)<7 by omega,show ((5:Nat):Int)<((7:Nat):Int) by omega,show (0:Int)≤((5:Nat):Int) by omega,decide_true,Int.toNat_natCast,List.length_cons,List.length_nil,Nat.zero_add,Nat.reduceAdd,show 5<7 by omega,Bool.and_self,if_true,hw,hi,Option.bind_some,Bool.not_true,Bool.false_eq_true,if_false,w1,beq_self_eq_true,hn,hs]
theorem al_txt {k:Nat} (hk:k<7) {w:List UInt8} (hw:[baL wKeep,baL wFile,baL wDiscard,baL wRedirect,baL wReject,baL wFlag,baL wReply].getD k ByteArray.empty=baL w) (h6:k≠5) (ht:txtB ((k+1:Nat):Int)=true) {v:ByteArray} (hi:qm1 2 (baL w) b a c o s bd r d ts=some (true,(true,(b,a1,c1,o1,s1,bd1,r1,d1,ts1))))
  (hn:qof 1 b a1 c1 o1 s1 bd1 r1 d1 ts1=some (v,(v,(b,a2,c2,o2,s2,bd2,r2,d2,ts2)))) (hs:qn1 (baL [59]) b a2 c2 o2 s2 bd2 r2 d2 ts2=some ((),((),st3))) :
  AL b a c o s bd r d ts (k:Int)=some (.inl ((),((2,(0,(0,(noTx,(0,(noTx,(0,(0,(0,(((k+1:Nat):Int),(noTx,(v,0)))))))))))),(st3,([],([],[])))))):=by
 have hs:qn1 (ByteArray.mk (List.toArray [(59:UInt8)])) b a2 c2 o2 s2 bd2 r2 d2 ts2=some ((),((),st3)):=hs
 have w1:IntKind.i64.wrap ((k:Int)+1)=((k+1:Nat):Int):=qvt (n:=10) (by omega) (by omega)
 have e6:(((k+1:Nat):Int)==6)=false:=by simp;omega
 refine qkg ?_
 simp only [qkl,gL,dL,wI,p0,q3l,q8h,EC.decL_encL,EC.isL_encL,show (k:Int)<7 by omega,show (k:Int)<((7:Nat):Int) by omega,show (0:Int)≤(k:Int) by omega,decide_true,Int.toNat_natCast,List.length_cons,List.length_nil,Nat.zero_add,Nat.reduceAdd,hk,Bool.and_self,if_true,hw,hi,Option.bind_some,Bool.not_true,Bool.false_eq_true,if_false,w1,e6,qum,ht,hn,hs]
theorem al_pl {k:Nat} (hk:k<7) {w:List UInt8} (hw:[baL wKeep,baL wFile,baL wDiscard,baL wRedirect,baL wReject,baL wFlag,baL wReply].getD k ByteArray.empty=baL w) (h6:k≠5) (ht:txtB ((k+1:Nat):Int)=false) (hi:qm1 2 (baL w) b a c o s bd r d ts=some (true,(true,(b,a1,c1,o1,s1,bd1,r1,d1,ts1))))
  (hs:qn1 (baL [59]) b a1 c1 o1 s1 bd1 r1 d1 ts1=some ((),((),st3))) :
  AL b a c o s bd r d ts (k:Int)=some (.inl ((),((2,(0,(0,(noTx,(0,(noTx,(0,(0,(0,(((k+1:Nat):Int),(noTx,(noTx,0)))))))))))),(st3,([],([],[])))))):=by
 have hs:qn1 (ByteArray.mk (List.toArray [(59:UInt8)])) b a1 c1 o1 s1 bd1 r1 d1 ts1=some ((),((),st3)):=hs
 have w1:IntKind.i64.wrap ((k:Int)+1)=((k+1:Nat):Int):=qvt (n:=10) (by omega) (by omega)
 have e6:(((k+1:Nat):Int)==6)=false:=by simp;omega
 refine qkg ?_
 simp only [qkl,gL,dL,wI,p0,q3l,q8h,EC.decL_encL,EC.isL_encL,show (k:Int)<7 by omega,show (k:Int)<((7:Nat):Int) by omega,show (0:Int)≤(k:Int) by omega,decide_true,Int.toNat_natCast,List.length_cons,List.length_nil,Nat.zero_add,Nat.reduceAdd,hk,Bool.and_self,if_true,hw,hi,Option.bind_some,Bool.not_true,Bool.false_eq_true,if_false,w1,e6,qum,ht,hs]
theorem qq {act n:Int} {tx:ByteArray} {st:Pst} (h:AL b a c o s bd r d ts 0=some (.inl ((),((2,(0,(0,(noTx,(0,(noTx,(0,(0,(0,(act,(noTx,(tx,n)))))))))))),(st,([],([],[]))))))) :
  qkb b a c o s bd r d ts=some (tupR (ruA act tx n),(tupR (ruA act tx n),st)):=by
 have e0:q5k.decL []=[]:=rfl
 have e1:q5l.decL []=[]:=rfl
 unfold AL at h
 refine qkd ?_
 simp only [qkp,gL,dL,q8h,EC.decL_encL,EC.isL_encL,qt,Option.bind_some,e0,e1,if_true,h,Sum.elim_inl]
 rfl
theorem qr (h:AL b a c o s bd r d ts 0=some (.inr (((),((),((),((baL wKeep,(baL wFile,(baL wDiscard,(baL wRedirect,(baL wReject,(baL wFlag,baL wReply)))))),(7,false))))),((b,a,c,o,s,bd,r,d,ts),((0,(0,(0,(noTx,(0,(noTx,(0,(0,(0,(0,(noTx,(noTx,0)))))))))))),((2,(0,(0,(noTx,(0,(noTx,(0,(0,(0,(0,(noTx,(noTx,0)))))))))))),([],([],([],([],([],[]))))))))) )) :
  qkb b a c o s bd r d ts=some (tupR (ruA 0 noTx 0),(tupR (ruA 0 noTx 0),(b,a,c,o,s,true,r,d,ts))):=by
 have e0:q5k.decL []=[]:=rfl
 have e1:q5l.decL []=[]:=rfl
 unfold AL at h
 refine qkd ?_
 simp only [qkp,gL,dL,q8h,EC.decL_encL,EC.isL_encL,qt,Option.bind_some,e0,e1,if_true,h,Sum.elim_inr]
 rfl
end
section
variable (b:ByteArray) (hb:b.size≤4000)
def PRO (d:Nat) (sp:Nat⊕(S59×List Tok×Nat)) (t:S59) (st:Pst):Prop:=match sp with
 |.inr y=>t=y.1∧y.2.2≤100∧∃ n z R,y.2.1=z::R∧At b n z R∧st=stP b n z false ((y.2.2:Nat):Int) (d:Int) 0
 |.inl o=>∃ n z r,z.o=o∧st=stP b n z true r (d:Int) 0
def actSpec (m:Nat) (x:Tok) (r:List Tok):Nat⊕(S59×List Tok×Nat) :=
 if actN x.s=0 then .inl x.o
 else if actN x.s=6 then thn (sNum r) fun a=>thn (sNeed [59] a.2) fun r1=>.inr (rul 2 t0 [] [] 6 [] [] a.1,r1,m+1)
 else if txtB (actN x.s)=true then thn (sTake 1 r) fun a=>thn (sNeed [59] a.2) fun r1=>.inr (rul 2 t0 [] [] (actN x.s) [] a.1 0,r1,m+1)
 else thn (sNeed [59] r) fun r1=>.inr (rul 2 t0 [] [] (actN x.s) [] [] 0,r1,m+1)
theorem qs {d m n:Nat} {x:Tok} {R:List Tok} (h:¬ (x.k=2∧actN x.s≠0)):qkb b ((n:Nat):Int) ((x.k:Nat):Int) ((x.o:Nat):Int) (baL x.s) false ((m+1:Nat):Int) (d:Int) 0=some (tupR (ruA 0 noTx 0),(tupR (ruA 0 noTx 0),(b,(((n:Nat):Int),(((x.k:Nat):Int),(((x.o:Nat):Int),(baL x.s,(true,(((m+1:Nat):Int),((d:Int),0)))))))))):=by
 have nos:∀ w:List UInt8,actN w≠0→qm1 2 (baL w) b ((n:Nat):Int) ((x.k:Nat):Int) ((x.o:Nat):Int) (baL x.s) false ((m+1:Nat):Int) (d:Int) 0=some (false,(false,(b,(((n:Nat):Int),(((x.k:Nat):Int),(((x.o:Nat):Int),(baL x.s,(false,(((m+1:Nat):Int),((d:Int),0)))))))))):=fun w hw =>
  is_no (k:=2) (R:=R) (by simp only [isT,Bool.and_eq_false_iff,beq_eq_false_iff_ne];by_cases e:x.k=2;exact .inr (fun e2=>h ⟨e,by rw [e2];exact hw⟩);exact .inl e) _ _ _
 exact qr (q16 (k:=0) (by omega) (w:=wKeep) rfl (nos _ (by decide)) (q16 (k:=1) (by omega) (w:=wFile) rfl (nos _ (by decide)) (q16 (k:=2) (by omega) (w:=wDiscard) rfl (nos _ (by decide)) (q16 (k:=3) (by omega) (w:=wRedirect) rfl (nos _ (by decide)) (q16 (k:=4) (by omega) (w:=wReject) rfl (nos _ (by decide)) (q16 (k:=5) (by omega) (w:=wFlag) rfl (nos _ (by decide)) (q16 (k:=6) (by omega) (w:=wReply) rfl (nos _ (by decide)) (al_7 _ _ _ _ _ _ _ _ _))))))))
include hb
theorem qo {m d n1:Nat} {z:Tok} {R1:List Tok} {bd1:Bool} (hm:m+1≤100) (hA1:At b n1 z R1) (hbd:bd1=false) (t:S59) (K:Pst→Prop)
  (hK:∀ st3,qn1 (baL [59]) b ((n1:Nat):Int) ((z.k:Nat):Int) ((z.o:Nat):Int) (baL z.s) bd1 ((m+1:Nat):Int) (d:Int) 0=some ((),((),st3))→K st3):∃ st,K st∧PRO b d (thn (sNeed [59] (z::R1)) fun r1=>.inr (t,r1,m+1)) t st:=by
 subst hbd
 simp only [sNeed]
 cases hc:isT 4 [59] (z::R1) with
 |false=>exact ⟨_,hK _ (qcb hc _ _ _),n1,z,_,rfl,rfl⟩
 |true =>
  obtain ⟨n2,z2,R2,rfl,q2,q3⟩:=qcc hb hA1 hc ((m+1:Nat):Int) (d:Int) 0
  exact ⟨_,hK _ q3,rfl,hm,n2,z2,R2,rfl,q2,rfl⟩
theorem act_s {d m n:Nat} {x:Tok} {R:List Tok} (hA:At b n x R) (hm:m+1≤100) (hx:x.k=2) :
  ∃ t st,qkb b ((n:Nat):Int) ((x.k:Nat):Int) ((x.o:Nat):Int) (baL x.s) false ((m+1:Nat):Int) (d:Int) 0=some (tupR t,(tupR t,st))∧PRO b d (actSpec m x R) t st:=by
 unfold actSpec
 by_cases h0:actN x.s=0
 ·rw [if_pos h0]
  exact ⟨_,_,qs b (R:=R) (fun e=>e.2 h0),n,x,_,rfl,rfl⟩
 rw [if_neg h0]
 have nos:∀ w:List UInt8,x.s≠w→qm1 2 (baL w) b ((n:Nat):Int) ((x.k:Nat):Int) ((x.o:Nat):Int) (baL x.s) false ((m+1:Nat):Int) (d:Int) 0=some (false,(false,(b,(((n:Nat):Int),(((x.k:Nat):Int),(((x.o:Nat):Int),(baL x.s,(false,(((m+1:Nat):Int),((d:Int),0)))))))))):=fun w hw =>
  is_no (k:=2) (R:=R) (by simp only [isT,Bool.and_eq_false_iff,beq_eq_false_iff_ne];exact .inr hw) _ _ _
 have hwds:x.s=wKeep∨x.s=wFile∨x.s=wDiscard∨x.s=wRedirect∨x.s=wReject∨x.s=wFlag∨x.s=wReply:=by
  unfold actN at h0
  by_cases q1:x.s=wKeep;· exact .inl q1
  by_cases q2:x.s=wFile;· exact .inr (.inl q2)
  by_cases q3:x.s=wDiscard;· exact .inr (.inr (.inl q3))
  by_cases q4:x.s=wRedirect;· exact .inr (.inr (.inr (.inl q4)))
  by_cases q5:x.s=wReject;· exact .inr (.inr (.inr (.inr (.inl q5))))
  by_cases q6:x.s=wFlag;· exact .inr (.inr (.inr (.inr (.inr (.inl q6)))))
  by_cases q7:x.s=wReply;· exact .inr (.inr (.inr (.inr (.inr (.inr (q7))))))
  simp [q1,q2,q3,q4,q5,q6,q7] at h0
 rcases hwds with hw|hw|hw|hw|hw|hw|hw
 ·have hN:actN x.s=1:=by rw [hw];rfl
  simp only [hN]
  obtain ⟨n1,y,R',rfl,g2,g3⟩:=q9z hb hA (k:=2) rfl (w:=wKeep) (by simp [isT,hx,hw]) ((m+1:Nat):Int) (d:Int) 0
  have g3:qm1 2 (baL wKeep) b ((n:Nat):Int) ((x.k:Nat):Int) ((x.o:Nat):Int) (baL x.s) false ((m+1:Nat):Int) (d:Int) 0=some (true,(true,(b,(((n1:Nat):Int),(((y.k:Nat):Int),(((y.o:Nat):Int),(baL y.s,(false,(((m+1:Nat):Int),((d:Int),0)))))))))):=g3
  rw [if_neg (by decide),if_neg (by decide)]
  obtain ⟨st,k1,k2⟩:=qo b hb hm g2 rfl (rul 2 t0 [] [] 1 [] [] 0) (fun st=>qkb b ((n:Nat):Int) ((x.k:Nat):Int) ((x.o:Nat):Int) (baL x.s) false ((m+1:Nat):Int) (d:Int) 0=some (tupR (ruA 1 noTx 0),(tupR (ruA 1 noTx 0),st))) (fun st3 q4=>qq (al_pl (k:=0) (by omega) (w:=wKeep) rfl (by omega) rfl g3 q4))
  exact ⟨_,st,k1,k2⟩
 ·have hN:actN x.s=2:=by rw [hw];rfl
  simp only [hN]
  obtain ⟨n1,y,R',rfl,g2,g3⟩:=q9z hb hA (k:=2) rfl (w:=wFile) (by simp [isT,hx,hw]) ((m+1:Nat):Int) (d:Int) 0
  have g3:qm1 2 (baL wFile) b ((n:Nat):Int) ((x.k:Nat):Int) ((x.o:Nat):Int) (baL x.s) false ((m+1:Nat):Int) (d:Int) 0=some (true,(true,(b,(((n1:Nat):Int),(((y.k:Nat):Int),(((y.o:Nat):Int),(baL y.s,(false,(((m+1:Nat):Int),((d:Int),0)))))))))):=g3
  rw [if_neg (by decide),if_pos (by decide)]
  simp only [sTake]
  by_cases hy:y.k=1
  ·obtain ⟨n2,z,R2,rfl,q2,q3⟩:=qu9 hb g2 (k:=1) rfl hy ((m+1:Nat):Int) (d:Int) 0
   rw [if_pos hy]
   dsimp only [thn]
   obtain ⟨st,k1,k2⟩:=qo b hb hm q2 rfl (rul 2 t0 [] [] 2 [] y.s 0) (fun st=>qkb b ((n:Nat):Int) ((x.k:Nat):Int) ((x.o:Nat):Int) (baL x.s) false ((m+1:Nat):Int) (d:Int) 0=some (tupR (ruA 2 (baL y.s) 0),(tupR (ruA 2 (baL y.s) 0),st))) (fun st3 q4=>qq (q16 (k:=0) (by omega) (w:=wKeep) rfl (nos _ (fun e=>absurd (hw.symm.trans e) (by decide))) (al_txt (k:=1) (by omega) (w:=wFile) rfl (by omega) rfl g3 q3 q4)))
   exact ⟨_,st,k1,k2⟩
  ·have q3:=qu7 (b:=b) (n:=n1) (k:=1) hy ((m+1:Nat):Int) (d:Int) 0
   rw [if_neg hy]
   exact ⟨_,_,qq (q16 (k:=0) (by omega) (w:=wKeep) rfl (nos _ (fun e=>absurd (hw.symm.trans e) (by decide))) (al_txt (k:=1) (by omega) (w:=wFile) rfl (by omega) rfl g3 q3 (qca _ _ _ _ _ _ _ _ _))),n1,y,_,rfl,rfl⟩
 ·have hN:actN x.s=3:=by rw [hw];rfl
  simp only [hN]
  obtain ⟨n1,y,R',rfl,g2,g3⟩:=q9z hb hA (k:=2) rfl (w:=wDiscard) (by simp [isT,hx,hw]) ((m+1:Nat):Int) (d:Int) 0
  have g3:qm1 2 (baL wDiscard) b ((n:Nat):Int) ((x.k:Nat):Int) ((x.o:Nat):Int) (baL x.s) false ((m+1:Nat):Int) (d:Int) 0=some (true,(true,(b,(((n1:Nat):Int),(((y.k:Nat):Int),(((y.o:Nat):Int),(baL y.s,(false,(((m+1:Nat):Int),((d:Int),0)))))))))):=g3
  rw [if_neg (by decide),if_neg (by decide)]
  obtain ⟨st,k1,k2⟩:=qo b hb hm g2 rfl (rul 2 t0 [] [] 3 [] [] 0) (fun st=>qkb b ((n:Nat):Int) ((x.k:Nat):Int) ((x.o:Nat):Int) (baL x.s) false ((m+1:Nat):Int) (d:Int) 0=some (tupR (ruA 3 noTx 0),(tupR (ruA 3 noTx 0),st))) (fun st3 q4=>qq (q16 (k:=0) (by omega) (w:=wKeep) rfl (nos _ (fun e=>absurd (hw.symm.trans e) (by decide))) (q16 (k:=1) (by omega) (w:=wFile) rfl (nos _ (fun e=>absurd (hw.symm.trans e) (by decide))) (al_pl (k:=2) (by omega) (w:=wDiscard) rfl (by omega) rfl g3 q4))))
  exact ⟨_,st,k1,k2⟩
 ·have hN:actN x.s=4:=by rw [hw];rfl
  simp only [hN]
  obtain ⟨n1,y,R',rfl,g2,g3⟩:=q9z hb hA (k:=2) rfl (w:=wRedirect) (by simp [isT,hx,hw]) ((m+1:Nat):Int) (d:Int) 0
  have g3:qm1 2 (baL wRedirect) b ((n:Nat):Int) ((x.k:Nat):Int) ((x.o:Nat):Int) (baL x.s) false ((m+1:Nat):Int) (d:Int) 0=some (true,(true,(b,(((n1:Nat):Int),(((y.k:Nat):Int),(((y.o:Nat):Int),(baL y.s,(false,(((m+1:Nat):Int),((d:Int),0)))))))))):=g3
  rw [if_neg (by decide),if_pos (by decide)]
  simp only [sTake]
  by_cases hy:y.k=1
  ·obtain ⟨n2,z,R2,rfl,q2,q3⟩:=qu9 hb g2 (k:=1) rfl hy ((m+1:Nat):Int) (d:Int) 0
   rw [if_pos hy]
   dsimp only [thn]
   obtain ⟨st,k1,k2⟩:=qo b hb hm q2 rfl (rul 2 t0 [] [] 4 [] y.s 0) (fun st=>qkb b ((n:Nat):Int) ((x.k:Nat):Int) ((x.o:Nat):Int) (baL x.s) false ((m+1:Nat):Int) (d:Int) 0=some (tupR (ruA 4 (baL y.s) 0),(tupR (ruA 4 (baL y.s) 0),st))) (fun st3 q4=>qq (q16 (k:=0) (by omega) (w:=wKeep) rfl (nos _ (fun e=>absurd (hw.symm.trans e) (by decide))) (q16 (k:=1) (by omega) (w:=wFile) rfl (nos _ (fun e=>absurd (hw.symm.trans e) (by decide))) (q16 (k:=2) (by omega) (w:=wDiscard) rfl (nos _ (fun e=>absurd (hw.symm.trans e) (by decide))) (al_txt (k:=3) (by omega) (w:=wRedirect) rfl (by omega) rfl g3 q3 q4)))))
   exact ⟨_,st,k1,k2⟩
  ·have q3:=qu7 (b:=b) (n:=n1) (k:=1) hy ((m+1:Nat):Int) (d:Int) 0
   rw [if_neg hy]
   exact ⟨_,_,qq (q16 (k:=0) (by omega) (w:=wKeep) rfl (nos _ (fun e=>absurd (hw.symm.trans e) (by decide))) (q16 (k:=1) (by omega) (w:=wFile) rfl (nos _ (fun e=>absurd (hw.symm.trans e) (by decide))) (q16 (k:=2) (by omega) (w:=wDiscard) rfl (nos _ (fun e=>absurd (hw.symm.trans e) (by decide))) (al_txt (k:=3) (by omega) (w:=wRedirect) rfl (by omega) rfl g3 q3 (qca _ _ _ _ _ _ _ _ _))))),n1,y,_,rfl,rfl⟩
 ·have hN:actN x.s=5:=by rw [hw];rfl
  simp only [hN]
  obtain ⟨n1,y,R',rfl,g2,g3⟩:=q9z hb hA (k:=2) rfl (w:=wReject) (by simp [isT,hx,hw]) ((m+1:Nat):Int) (d:Int) 0
  have g3:qm1 2 (baL wReject) b ((n:Nat):Int) ((x.k:Nat):Int) ((x.o:Nat):Int) (baL x.s) false ((m+1:Nat):Int) (d:Int) 0=some (true,(true,(b,(((n1:Nat):Int),(((y.k:Nat):Int),(((y.o:Nat):Int),(baL y.s,(false,(((m+1:Nat):Int),((d:Int),0)))))))))):=g3
  rw [if_neg (by decide),if_pos (by decide)]
  simp only [sTake]
  by_cases hy:y.k=1
  ·obtain ⟨n2,z,R2,rfl,q2,q3⟩:=qu9 hb g2 (k:=1) rfl hy ((m+1:Nat):Int) (d:Int) 0
   rw [if_pos hy]
   dsimp only [thn]
   obtain ⟨st,k1,k2⟩:=qo b hb hm q2 rfl (rul 2 t0 [] [] 5 [] y.s 0) (fun st=>qkb b ((n:Nat):Int) ((x.k:Nat):Int) ((x.o:Nat):Int) (baL x.s) false ((m+1:Nat):Int) (d:Int) 0=some (tupR (ruA 5 (baL y.s) 0),(tupR (ruA 5 (baL y.s) 0),st))) (fun st3 q4=>qq (q16 (k:=0) (by omega) (w:=wKeep) rfl (nos _ (fun e=>absurd (hw.symm.trans e) (by decide))) (q16 (k:=1) (by omega) (w:=wFile) rfl (nos _ (fun e=>absurd (hw.symm.trans e) (by decide))) (q16 (k:=2) (by omega) (w:=wDiscard) rfl (nos _ (fun e=>absurd (hw.symm.trans e) (by decide))) (q16 (k:=3) (by omega) (w:=wRedirect) rfl (nos _ (fun e=>absurd (hw.symm.trans e) (by decide))) (al_txt (k:=4) (by omega) (w:=wReject) rfl (by omega) rfl g3 q3 q4))))))
   exact ⟨_,st,k1,k2⟩
  ·have q3:=qu7 (b:=b) (n:=n1) (k:=1) hy ((m+1:Nat):Int) (d:Int) 0
   rw [if_neg hy]
   exact ⟨_,_,qq (q16 (k:=0) (by omega) (w:=wKeep) rfl (nos _ (fun e=>absurd (hw.symm.trans e) (by decide))) (q16 (k:=1) (by omega) (w:=wFile) rfl (nos _ (fun e=>absurd (hw.symm.trans e) (by decide))) (q16 (k:=2) (by omega) (w:=wDiscard) rfl (nos _ (fun e=>absurd (hw.symm.trans e) (by decide))) (q16 (k:=3) (by omega) (w:=wRedirect) rfl (nos _ (fun e=>absurd (hw.symm.trans e) (by decide))) (al_txt (k:=4) (by omega) (w:=wReject) rfl (by omega) rfl g3 q3 (qca _ _ _ _ _ _ _ _ _)))))),n1,y,_,rfl,rfl⟩
 ·have hN:actN x.s=6:=by rw [hw];rfl
  simp only [hN]
  obtain ⟨n1,y,R',rfl,g2,g3⟩:=q9z hb hA (k:=2) rfl (w:=wFlag) (by simp [isT,hx,hw]) ((m+1:Nat):Int) (d:Int) 0
  have g3:qm1 2 (baL wFlag) b ((n:Nat):Int) ((x.k:Nat):Int) ((x.o:Nat):Int) (baL x.s) false ((m+1:Nat):Int) (d:Int) 0=some (true,(true,(b,(((n1:Nat):Int),(((y.k:Nat):Int),(((y.o:Nat):Int),(baL y.s,(false,(((m+1:Nat):Int),((d:Int),0)))))))))):=g3
  have hn:=num_s hb g2 ((m+1:Nat):Int) (d:Int) 0
  cases hs:sNum (y::R') with
  |inl o =>
   rw [hs] at hn
   obtain ⟨rfl,h1⟩:=hn
   exact ⟨_,_,qq (q16 (k:=0) (by omega) (w:=wKeep) rfl (nos _ (fun e=>absurd (hw.symm.trans e) (by decide))) (q16 (k:=1) (by omega) (w:=wFile) rfl (nos _ (fun e=>absurd (hw.symm.trans e) (by decide))) (q16 (k:=2) (by omega) (w:=wDiscard) rfl (nos _ (fun e=>absurd (hw.symm.trans e) (by decide))) (q16 (k:=3) (by omega) (w:=wRedirect) rfl (nos _ (fun e=>absurd (hw.symm.trans e) (by decide))) (q16 (k:=4) (by omega) (w:=wReject) rfl (nos _ (fun e=>absurd (hw.symm.trans e) (by decide))) (al_num g3 h1 (qca _ _ _ _ _ _ _ _ _))))))),n1,y,_,rfl,rfl⟩
  |inr q =>
   rw [hs] at hn
   obtain ⟨n2,z,R2,j1,j2,h1⟩:=hn
   dsimp only [thn]
   rw [j1]
   obtain ⟨st,k1,k2⟩:=qo b hb hm j2 rfl (rul 2 t0 [] [] 6 [] [] q.1) (fun st=>qkb b ((n:Nat):Int) ((x.k:Nat):Int) ((x.o:Nat):Int) (baL x.s) false ((m+1:Nat):Int) (d:Int) 0=some (tupR (ruA 6 noTx ((q.1:Nat):Int)),(tupR (ruA 6 noTx ((q.1:Nat):Int)),st))) (fun st3 q3=>qq (q16 (k:=0) (by omega) (w:=wKeep) rfl (nos _ (fun e=>absurd (hw.symm.trans e) (by decide))) (q16 (k:=1) (by omega) (w:=wFile) rfl (nos _ (fun e=>absurd (hw.symm.trans e) (by decide))) (q16 (k:=2) (by omega) (w:=wDiscard) rfl (nos _ (fun e=>absurd (hw.symm.trans e) (by decide))) (q16 (k:=3) (by omega) (w:=wRedirect) rfl (nos _ (fun e=>absurd (hw.symm.trans e) (by decide))) (q16 (k:=4) (by omega) (w:=wReject) rfl (nos _ (fun e=>absurd (hw.symm.trans e) (by decide))) (al_num g3 h1 q3)))))))
   exact ⟨_,st,k1,k2⟩
 ·have hN:actN x.s=7:=by rw [hw];rfl
  simp only [hN]
  obtain ⟨n1,y,R',rfl,g2,g3⟩:=q9z hb hA (k:=2) rfl (w:=wReply) (by simp [isT,hx,hw]) ((m+1:Nat):Int) (d:Int) 0
  have g3:qm1 2 (baL wReply) b ((n:Nat):Int) ((x.k:Nat):Int) ((x.o:Nat):Int) (baL x.s) false ((m+1:Nat):Int) (d:Int) 0=some (true,(true,(b,(((n1:Nat):Int),(((y.k:Nat):Int),(((y.o:Nat):Int),(baL y.s,(false,(((m+1:Nat):Int),((d:Int),0)))))))))):=g3
  rw [if_neg (by decide),if_pos (by decide)]
  simp only [sTake]
  by_cases hy:y.k=1
  ·obtain ⟨n2,z,R2,rfl,q2,q3⟩:=qu9 hb g2 (k:=1) rfl hy ((m+1:Nat):Int) (d:Int) 0
   rw [if_pos hy]
   dsimp only [thn]
   obtain ⟨st,k1,k2⟩:=qo b hb hm q2 rfl (rul 2 t0 [] [] 7 [] y.s 0) (fun st=>qkb b ((n:Nat):Int) ((x.k:Nat):Int) ((x.o:Nat):Int) (baL x.s) false ((m+1:Nat):Int) (d:Int) 0=some (tupR (ruA 7 (baL y.s) 0),(tupR (ruA 7 (baL y.s) 0),st))) (fun st3 q4=>qq (q16 (k:=0) (by omega) (w:=wKeep) rfl (nos _ (fun e=>absurd (hw.symm.trans e) (by decide))) (q16 (k:=1) (by omega) (w:=wFile) rfl (nos _ (fun e=>absurd (hw.symm.trans e) (by decide))) (q16 (k:=2) (by omega) (w:=wDiscard) rfl (nos _ (fun e=>absurd (hw.symm.trans e) (by decide))) (q16 (k:=3) (by omega) (w:=wRedirect) rfl (nos _ (fun e=>absurd (hw.symm.trans e) (by decide))) (q16 (k:=4) (by omega) (w:=wReject) rfl (nos _ (fun e=>absurd (hw.symm.trans e) (by decide))) (q16 (k:=5) (by omega) (w:=wFlag) rfl (nos _ (fun e=>absurd (hw.symm.trans e) (by decide))) (al_txt (k:=6) (by omega) (w:=wReply) rfl (by omega) rfl g3 q3 q4))))))))
   exact ⟨_,st,k1,k2⟩
  ·have q3:=qu7 (b:=b) (n:=n1) (k:=1) hy ((m+1:Nat):Int) (d:Int) 0
   rw [if_neg hy]
   exact ⟨_,_,qq (q16 (k:=0) (by omega) (w:=wKeep) rfl (nos _ (fun e=>absurd (hw.symm.trans e) (by decide))) (q16 (k:=1) (by omega) (w:=wFile) rfl (nos _ (fun e=>absurd (hw.symm.trans e) (by decide))) (q16 (k:=2) (by omega) (w:=wDiscard) rfl (nos _ (fun e=>absurd (hw.symm.trans e) (by decide))) (q16 (k:=3) (by omega) (w:=wRedirect) rfl (nos _ (fun e=>absurd (hw.symm.trans e) (by decide))) (q16 (k:=4) (by omega) (w:=wReject) rfl (nos _ (fun e=>absurd (hw.symm.trans e) (by decide))) (q16 (k:=5) (by omega) (w:=wFlag) rfl (nos _ (fun e=>absurd (hw.symm.trans e) (by decide))) (al_txt (k:=6) (by omega) (w:=wReply) rfl (by omega) rfl g3 q3 (qca _ _ _ _ _ _ _ _ _)))))))),n1,y,_,rfl,rfl⟩
end
end Go.Proofs.YtognhcibcocbkaaGreatDoor
