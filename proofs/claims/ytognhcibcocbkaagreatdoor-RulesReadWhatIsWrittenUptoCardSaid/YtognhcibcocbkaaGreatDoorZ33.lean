/- The program prints rules as specified. -/
import Derived.Test.YtognhcibcocbkaaGreatDoorZ32
import Derived.Test.YtognhcibcocbkaaGreatDoorZ24
import Derived.Test.YtognhcibcocbkaaGreatDoorZ31
import Derived.Test.YtognhcibcocbkaaGreatDoorZ01
import Derived.Test.YtognhcibcocbkaaGreatDoorChecked
import Derived.ProofKit
import Derived.OpenShut
import Derived.JoinedCond
import Derived.Deep.Slices
import Derived.Deep.Fields
import Derived.Lib.SmallJoins
import Derived.Test.YtognhcibcocbkaaGreatDoorRows
namespace Go.Proofs.YtognhcibcocbkaaGreatDoor
open Go.RowKit
theorem vL_mem {l:List S59} {d:Nat} (h:vL l d) {r:S59} (hr:r∈l):vR r d:=by
 induction l with
 |nil=>cases hr
 |cons a l ih =>
  rcases List.mem_cons.1 hr with rfl|hr
  ·exact h.1
  ·exact ih h.2 hr
theorem qv2 {l:List S59} {r:S59} (hr:r∈l):tsz r≤tszL l:=by
 induction l with
 |nil=>cases hr
 |cons a l ih =>
  simp only [tszL]
  rcases List.mem_cons.1 hr with rfl|hr
  ·omega
  ·have:=ih hr;omega
theorem qv3 (r:S59):1≤tsz r:=by rw [tsz_eq,tzT_eq];omega
theorem qb8:∀ l:List S59,l.length≤tszL l
 |[]=>Nat.zero_le _
 |r::l=>by have:=qb8 l;have:=qv3 r;simp only [tszL,List.length_cons];omega
theorem g7_s {l:List UInt8} (h:l.length≤1000000000000000):qjj (baL l)=some (baL (l++[10]),()):=by
 refine qjl ?_
 simp (disch:=omega) only [qjp,↓q3l,↓reduceIte,foldB,q2q,q2o,List.length_cons,List.length_nil,gm,Bool.false_eq_true]
theorem g17_s {l:List UInt8} (h:l.length≤1000000000000000):qjc (baL l)=some (baL (l++[59,10]),()):=by
 refine qje ?_
 simp (disch:=omega) only [qji,↓q3l,↓reduceIte,foldB,q2q,q2o,List.length_cons,List.length_nil,gm,Bool.false_eq_true]
theorem g15_6 {l:List UInt8} (h:l.length≤1000000000000) (k tk:Int) (tts:List S57) (tnm:ByteArray) (tp:Int) (ttx:ByteArray) (tn:Int) (th el:List S59) (nm tx:ByteArray) {n:Int} (hn:0≤n∧n≤1000000) :
  qj5 (baL l) k tk tts tnm tp ttx tn th el 6 nm tx n=some (baL (l++32::(Lib.decDigits n.toNat++[59,10])),()):=by
 have hi:=ito_s hn
 have hdl:=q52 6 n.toNat (by omega)
 refine qj7 ?_
 have g:=g17_s (l:=l++([32]++Lib.decDigits n.toNat)) (by simp only [List.length_append,List.length_cons,List.length_nil];omega)
 simp (disch:=omega) only [qjb,↓q3l,↓reduceIte,beq_self_eq_true,hi,Option.bind_some,foldB,q2q,q2o,List.length_append,List.length_cons,List.length_nil,gm,Bool.false_eq_true,g]
 simp
theorem g15_n {l:List UInt8} (h:l.length≤1000000000000) (k tk:Int) (tts:List S57) (tnm:ByteArray) (tp:Int) (ttx:ByteArray) (tn:Int) (th el:List S59) {act:Int} (ha:¬ act=6) (nm tx:ByteArray) (n:Int) :
  qj5 (baL l) k tk tts tnm tp ttx tn th el act nm tx n=some (baL (l++[59,10]),()):=by
 have e6:(act==6)=false:=by simpa using ha
 refine qj7 ?_
 simp (disch:=omega) only [qjb,↓q3l,↓reduceIte,e6,Option.bind_some,Bool.false_eq_true,g17_s]
noncomputable def ofR (r:S59) (d:Int):Option ByteArray:=qjq r.Kind r.Test_Kind r.Test_Tests r.Test_Name r.Test_Pattern r.Test_Text r.Test_N r.Then r.Else r.Act r.Name r.Text r.N d
theorem qdh (d:Nat) (l:List S59) (hl:l.length≤1000000000) (hz:tszL l≤1000000000) (hr:∀ r∈l,ofR r (d:Int)=some (baL (ruleL r d))∧(ruleL r d).length≤2000*tsz r) :
  ∀ m i (acc:List UInt8),i+m=l.length→acc.length+2000*tszL (l.drop i)≤2000*tszL l→qjw (d:Int) (baL acc) l (l.length:Int) (i:Int)=some (((d:Int),(baL (acc++rulesL (l.drop i) d),(l,((l.length:Int),((l.length:Int),false))))),()):=by
 intro m
 induction m with
 |zero =>
  intro i acc hi _
  have hi:i=l.length:=by omega
  subst hi
  refine qjy ?_
  simp only [qk2,z12,gL,dL,eC,wI,p0,uL,q3l,q8h,EC.decL_encL,EC.isL_encL,EC.encL_length,q9u,q27,q28,q2c,q2d,q2e,q2f,q2g,q2h,q2i,q2j,q29,q2a,q2b,show ¬ ((l.length:Int)<(l.length:Int)) by omega,decide_false,Bool.false_eq_true,if_false,if_true,List.drop_length,rulesL,List.append_nil]
 |succ m ihm =>
  intro i acc hi ha
  have hlt:i<l.length:=by omega
  obtain ⟨h1,h1l⟩:=hr _ (List.getElem_mem hlt)
  have hm:=qv2 (List.getElem_mem hlt)
  have h1:qjq l[i].Kind l[i].Test_Kind l[i].Test_Tests l[i].Test_Name l[i].Test_Pattern l[i].Test_Text l[i].Test_N l[i].Then l[i].Else l[i].Act l[i].Name l[i].Text l[i].N (d:Int)=some (baL (ruleL l[i] d)):=h1
  have w1:IntKind.i64.wrap ((i:Int)+1)=((i+1:Nat):Int):=qvt hlt (by omega)
  have hdz:tszL (l.drop i)=tsz l[i]+tszL (l.drop (i+1)):=by rw [q5h hlt];rfl
  have hacc:acc.length+(ruleL l[i] d).length≤9223372036854775807:=by omega
  have h2:=ihm (i+1) (acc++ruleL l[i] d) (by omega) (by rw [List.length_append];omega)
  rw [q5h hlt,rulesL,←List.append_assoc]
  refine qjy ?_
  simp (disch:=omega) only [qk2,z12,gL,dL,eC,wI,p0,uL,q3l,q8h,EC.decL_encL,EC.isL_encL,EC.encL_length,q9u,q27,q28,q2c,q2d,q2e,q2f,q2g,q2h,q2i,q2j,q29,q2a,q2b,show ((i:Int)<(l.length:Int)) by omega,show (0:Int)≤(i:Int) by omega,decide_true,Int.toNat_natCast,hlt,Bool.and_self,if_true,q8k hlt,h1,Option.bind_some,w1,q2q,q2o,gm,Bool.false_eq_true,if_false,h2]
theorem ofS_of (d:Nat) (l:List S59) (hz:tszL l≤1000000000) (hr:∀ r∈l,ofR r (d:Int)=some (baL (ruleL r d))∧(ruleL r d).length≤2000*tsz r):qk3 l (d:Int)=some (baL (rulesL l d)):=by
 have h:=qdh d l (by have:=qb8 l;omega) hz hr l.length 0 [] (by omega) (by simp)
 have h:qjw (d:Int) noTx l (l.length:Int) 0=_:=h
 refine qjv ?_
 simp only [qk4,gL,dL,lN,q8h,EC.decL_encL,EC.isL_encL,EC.encL_length,if_true,h,Option.bind_some,List.nil_append,List.drop_zero]
theorem qp {a:Int} (h:1≤a∧a≤7):[baL wKeep,baL wFile,baL wDiscard,baL wRedirect,baL wReject,baL wFlag,baL wReply].getD (Int.toNat (a - 1)) ByteArray.empty=baL (actW a):=by
 have:a=1∨a=2∨a=3∨a=4∨a=5∨a=6∨a=7:=by omega
 rcases this with rfl|rfl|rfl|rfl|rfl|rfl|rfl <;> rfl
theorem qgy {d:Nat} {r:S59} (hd:d≤8) (h:vR r (d+1)):(ruleL r d).length≤2000*tsz r:=by
 have:=qii (8 - d) d (by omega) [r] ⟨h,trivial⟩
 simpa [rulesL,tszL] using this
section
variable (tk:Int) (tts:List S57) (tnm:ByteArray) (tp:Int) (ttx:ByteArray) (tn:Int) (th el:List S59) (act:Int) (nm tx:ByteArray) (n d d1:Int) (I T A E:List UInt8)
 (hI:I.length≤1000) (hT:T.length≤10000000000000) (hA:A.length≤10000000000000) (hrep:repP (baL [32,32]) d=some (baL I)) (ht:qk9 tk tts tnm tp ttx tn=some (baL T)) (w1:IntKind.i64.wrap (d+1)=d1) (iht:qk3 th d1=some (baL A))
include hI hT hA hrep ht w1 iht
set_option maxHeartbeats 2000000 in
theorem qdf:qjq 1 tk tts tnm tp ttx tn th [] act nm tx n d=some (baL (I++([105,102,32]++(T++([32,123,10]++(A++(I++([125]++[10])))))))):=by
 have ce:decide (((0:Nat):Int)>0)=false:=rfl
 have g:=g7_s (l:=I++([105,102,32]++(T++([32,123,10]++(A++(I++[125])))))) (by simp only [List.length_append,List.length_cons,List.length_nil];omega)
 refine qj4 ?_
 simp (disch:=omega) only [qjr,z13,gL,dL,lN,wI,p0,↓q3l,↓q8h,↓reduceIte,EC.decL_encL,EC.isL_encL,EC.encL_length,foldB,hrep,Option.bind_some,beq_self_eq_true,ht,w1,iht,ce,q2q,q2o,List.length_append,List.length_cons,List.length_nil,gm,Bool.false_eq_true,List.append_assoc,g]
set_option maxHeartbeats 8000000 in
theorem qdg (hel:0<el.length) (hE:E.length≤10000000000000) (ihe:qk3 el d1=some (baL E)):qjq 1 tk tts tnm tp ttx tn th el act nm tx n d =
  some (baL (I++([105,102,32]++(T++([32,123,10]++(A++(I++([125]++([32,101,108,115,101,32,123,10]++(E++(I++([125]++[10])))))))))))):=by
 have ce:decide (((el.length:Nat):Int)>0)=true:=by simp;omega
 have g:=g7_s (l:=I++([105,102,32]++(T++([32,123,10]++(A++(I++([125]++([32,101,108,115,101,32,123,10]++(E++(I++[125])))))))))) (by simp only [List.length_append,List.length_cons,List.length_nil];omega)
 refine qj4 ?_
 simp (maxSteps:=2000000) (disch:=omega) only [qjr,z13,gL,dL,lN,wI,p0,↓q3l,↓q8h,↓reduceIte,EC.decL_encL,EC.isL_encL,EC.encL_length,foldB,hrep,Option.bind_some,beq_self_eq_true,ht,w1,iht,ihe,ce,q2q,q2o,List.length_append,List.length_cons,List.length_nil,gm,Bool.false_eq_true,List.append_assoc,g]
end
theorem ofR_s (d:Nat) (r:S59) (hv:vR r (d+1)) (hz:tsz r≤1000000000) (iht:qk3 r.Then ((d+1:Nat):Int)=some (baL (rulesL r.Then (d+1)))) (ihe:qk3 r.Else ((d+1:Nat):Int)=some (baL (rulesL r.Else (d+1)))) :
  ofR r (d:Int)=some (baL (ruleL r d)):=by
 obtain ⟨F,v1,v2⟩:=qvd hv
 have hd8:=F.d8
 have hrH:rHead r=0:=by
  cases r
  exact hv.2.1
 have S:=qg3 hrH
 have hlt:=qii (7 - d) (d+1) (by omega) r.Then v1
 have hle:=qii (7 - d) (d+1) (by omega) r.Else v2
 have htz:=tsz_eq r
 have hrep:=rep_s (d:=d) (by omega)
 have hil:=q9i d
 obtain ⟨k,tk,tts,tnm,tp,ttx,tn,th,el,act,nm,tx,n⟩:=r
 have q2:=quo_le (bl tx)
 rw [bl_len] at q2
 have hk:=F.k
 have hk1:=F.k1
 have hac:=F.ac
 simp only [tOf] at *
 clear v1 v2 F hrH hv
 have hq:=quo_s (s:=tx) (by omega)
 have w1:IntKind.i64.wrap ((d:Int)+1)=((d+1:Nat):Int):=qvt (n:=1000) (by omega) (by omega)
 show qjq k tk tts tnm tp ttx tn th el act nm tx n (d:Int)=some (baL (ruleL ⟨k,tk,tts,tnm,tp,ttx,tn,th,el,act,nm,tx,n⟩ d))
 have hcase:k=1∨k=2∨k=3∨k=4:=by omega
 rcases hcase with rfl|rfl|rfl|rfl
 ·have ht0:=(hk1 rfl).2.2.2.2
  have ht:=ofT_s 8 1 rfl ⟨tk,tts,tnm,tp,ttx,tn⟩ ht0 (by omega)
  have htl:=quf ht0
  have ht:qk9 tk tts tnm tp ttx tn=some (baL (testL ⟨tk,tts,tnm,tp,ttx,tn⟩)):=ht
  cases el with
  |nil =>
   refine (qdf tk tts tnm tp ttx tn th act nm tx n (d:Int) _ _ _ _ (by omega) (by omega) (by omega) hrep ht w1 iht).trans ?_
   simp [ruleL,wIf]
  |cons e0 el =>
   refine (qdg tk tts tnm tp ttx tn th (e0::el) act nm tx n (d:Int) _ _ _ _ _ (by omega) (by omega) (by omega) hrep ht w1 iht (by simp) (by omega) ihe).trans ?_
   simp [ruleL,wIf,wElse]
 ·obtain ⟨a1,a2,a3,a4⟩:=hac rfl
  refine qj4 ?_
  have hwl:=qn a1
  have wa:IntKind.i64.wrap (act - 1)=act - 1:=qvs (by omega)
  have ga:=qp a1
  have gi:((decide (0≤act - 1)&&decide (act - 1<((7:Nat):Int)))&&decide (Int.toNat (act - 1)<[baL wKeep,baL wFile,baL wDiscard,baL wRedirect,baL wReject,baL wFlag,baL wReply].length))=true:=by
   simp only [Bool.and_eq_true,decide_eq_true_eq,List.length_cons,List.length_nil];omega
  have e1:((2:Int)==1)=false:=rfl
  have e3:((2:Int)==3)=false:=rfl
  have e4:((2:Int)==4)=false:=rfl
  cases htx:txtB act with
  |true =>
   have n6:¬ act=6:=fun e=>by rw [e] at htx;cases htx
   simp (disch:=omega) only [qjr,z13,gL,dL,lN,wI,p0,↓q3l,↓q8h,↓reduceIte,EC.decL_encL,EC.isL_encL,foldB,hrep,Option.bind_some,e1,e3,e4,qt,wa,ga,qum,htx,hq,q2q,q2o,List.length_append,List.length_cons,List.length_nil,gm,Bool.false_eq_true]
   rw [g15_n (by simp only [List.length_append,List.length_cons,List.length_nil];omega) _ _ _ _ _ _ _ _ _ n6]
   simp [ruleL,htx]
   omega
  |false =>
   by_cases h6:act=6
   ·subst h6
    simp (disch:=omega) only [qjr,z13,gL,dL,lN,wI,p0,↓q3l,↓q8h,↓reduceIte,EC.decL_encL,EC.isL_encL,foldB,hrep,Option.bind_some,e1,e3,e4,qt,wa,ga,qum,htx,q2q,q2o,List.length_cons,List.length_nil,gm,Bool.false_eq_true]
    rw [g15_6 (by simp only [List.length_append];omega) _ _ _ _ _ _ _ _ _ _ _ (by omega)]
    simp [ruleL,htx]
   ·simp (disch:=omega) only [qjr,z13,gL,dL,lN,wI,p0,↓q3l,↓q8h,↓reduceIte,EC.decL_encL,EC.isL_encL,foldB,hrep,Option.bind_some,e1,e3,e4,qt,wa,ga,qum,htx,q2q,q2o,List.length_cons,List.length_nil,gm,Bool.false_eq_true]
    rw [g15_n (by simp only [List.length_append];omega) _ _ _ _ _ _ _ _ _ h6]
    simp [ruleL,htx,h6]
    omega
 ·refine qj4 ?_
  have e1:((3:Int)==1)=false:=rfl
  obtain ⟨NM,rfl⟩:∃ l,nm=baL l:=⟨bl nm,(ba_bl nm).symm⟩
  have hN:bl (baL NM)=NM:=q2p NM
  have hns:=S.2
  rw [q2q] at hns
  simp (disch:=omega) only [qjr,z13,gL,dL,lN,wI,p0,↓q3l,↓reduceIte,foldB,hrep,Option.bind_some,e1,beq_self_eq_true,hq,q2q,q2o,List.length_append,List.length_cons,List.length_nil,gm,Bool.false_eq_true]
  simp [ruleL,wSet,hN]
 ·refine qj4 ?_
  have e1:((4:Int)==1)=false:=rfl
  have e3:((4:Int)==3)=false:=rfl
  simp (disch:=omega) only [qjr,z13,gL,dL,lN,wI,p0,↓q3l,↓reduceIte,foldB,hrep,Option.bind_some,e1,e3,beq_self_eq_true,q2q,q2o,List.length_cons,List.length_nil,gm,Bool.false_eq_true]
  simp [ruleL,wStop]
theorem ofS_s:∀ (e d:Nat),d+e=8→∀ l:List S59,vL l (d+1)→tszL l≤1000000000→qk3 l (d:Int)=some (baL (rulesL l d))
 |0,d,hd,l,hv,hz=>ofS_of d l hz fun r hr=>by have:=(qvd (vL_mem hv hr)).1.d8;omega
 |e+1,d,hd,l,hv,hz=>ofS_of d l hz fun r hr=>by
  have h1:=vL_mem hv hr
  have h2:=qv2 hr
  have h3:=tsz_eq r
  obtain ⟨_,v1,v2⟩:=qvd h1
  exact ⟨ofR_s d r h1 (by omega) (ofS_s e (d+1) (by omega) r.Then v1 (by omega)) (ofS_s e (d+1) (by omega) r.Else v2 (by omega)),qgy (by omega) h1⟩
def sPrint (l:List S59):ByteArray×(Int×Int):=if (scriptF l).1≠0 then (noTx,scriptF l) else if 4000<(rulesL l 0).length then (noTx,(1,-1)) else (baL (rulesL l 0),(0,0))
theorem qrp {l:List S59} (h:(scriptF l).1=0):vL l 1:=by
 obtain ⟨m,h1,_,_⟩:=qrq h
 exact ck_v _ l rfl _ _ _ h1
theorem qfk (l:List S59) (hl:l.length≤big) (ho:okL l) (hz:(scriptF l).1=0→tszL l≤1000000000):qhb l=some (sPrint l):=by
 have hv:=qvf l hl ho
 unfold sPrint
 by_cases hf:(scriptF l).1=0
 ·have ef:((scriptF l).1 != 0)=false:=by simp [hf]
  have hs:=ofS_s 8 0 rfl l (qrp hf) (hz hf)
  have hs:qk3 l 0=some (baL (rulesL l 0)):=hs
  rw [if_neg (by simp [hf])]
  by_cases h4:4000<(rulesL l 0).length
  ·rw [if_pos h4]
   refine qha ?_
   simp only [qhc,gL,dL,↓q3l,↓q8h,↓reduceIte,EC.decL_encL,EC.isL_encL,hv,q71,ef,hs,Option.bind_some,q2q,show (((rulesL l 0).length:Nat):Int)>4000 by omega,decide_true,q72,Bool.false_eq_true]
  ·rw [if_neg h4]
   refine qha ?_
   simp only [qhc,gL,dL,↓q3l,↓q8h,↓reduceIte,EC.decL_encL,EC.isL_encL,hv,q71,ef,hs,Option.bind_some,q2q,show ¬ (((rulesL l 0).length:Nat):Int)>4000 by omega,decide_false,none_s,Bool.false_eq_true]
 ·have ef:((scriptF l).1 != 0)=true:=by simp [hf]
  rw [if_pos hf]
  refine qha ?_
  simp only [qhc,gL,dL,↓q3l,↓q8h,↓reduceIte,EC.decL_encL,EC.isL_encL,hv,q71,ef,Option.bind_some]
end Go.Proofs.YtognhcibcocbkaaGreatDoor
namespace Go.Proofs.YtognhcibcocbkaaGreatDoor
open Go.RowKit
theorem bl_ba (l:List UInt8):bl (baL l)=l:=q2p l
theorem qe4 {l:List S59} (h0:(scriptF l).1=0) (h4:¬ 4000<(rulesL l 0).length):sParse (bl (baL (rulesL l 0)))=(l,(0,0)):=by
 rw [qrd,q2q,if_neg h4,bl_ba,qg5 h0]
 simp only [h0,ne_eq,not_true_eq_false,if_false]
theorem law42 (l:List S59) (hl:l.length≤big) (ho:okL l) (hz:tszL l≤1000000000):qei l=some true:=by
 have hp:=qfk l hl ho (fun _=>hz)
 refine qeh ?_
 simp only [qej,gL,dL,↓q3l,↓q8h,↓reduceIte,EC.decL_encL,EC.isL_encL,hp,Option.bind_some]
 unfold sPrint
 by_cases h0:(scriptF l).1=0
 ·by_cases h4:4000<(rulesL l 0).length
  ·simp [h0,h4]
  ·have hq:=qe3 (baL (rulesL l 0))
   rw [qe4 h0 h4] at hq
   simp [h0,h4,hq,same_s hl ho]
 ·simp [h0]
end Go.Proofs.YtognhcibcocbkaaGreatDoor
namespace Go.Proofs.YtognhcibcocbkaaGreatDoor
open Go.ChangeShapes Go.WideShapes Go.ChangeAt Go.RowKit Go.Deep
theorem qk:ownKnob Tryz.prog.godebug=none:=by kernel_rfl
theorem qj:laidOutB Tryz.prog=true:=by kernel_rfl
section
variable {H:Type} {enc:TypeId×Value→H} {P:Program}
theorem qv0 (hl:laidOutB P=true) {W W':World} (hb:Bel W W'):∀ {ts:List TypeId} {vs:List Value} {ds:List (DataW H)} {ps:List MemPlace},ts.all (fun t=>P.readableRec t&&decide (t<P.types.size))=true →
  DataW.TrodAll enc P W 0 (fun _=>true) true ts vs ds ps→(∀ x∈ps,x.block<W.heap.size)→DataW.TrodAll enc P W' 0 (fun b=>decide (b<W.heap.size)) true ts vs ds ps
 |[],[],[],_,_,h,_=>h
 |[],[],_::_,_,_,h,_=>h.elim
 |[],_::_,_,_,_,h,_=>h.elim
 |_::_,[],_,_,_,h,_=>h.elim
 |_::_,_::_,[],_,_,h,_=>h.elim
 |t::ts,v::vs,d::ds,ps,hr,h,hlt=>by
  obtain ⟨p,q,h1,h2,rfl⟩:=h
  simp only [List.all_cons,Bool.and_eq_true,decide_eq_true_eq] at hr
  exact ⟨p,q,Below.trod hl hr.1.1 hr.1.2 h1 hb (fun x hx=>hlt x (List.mem_append_left _ hx)),qv0 hl hb hr.2 h2 (fun x hx=>hlt x (List.mem_append_right _ hx)),rfl⟩
theorem qaw {fn:Func} {s:ChangeSpec} {W W':World} {args:Array Value} {ds gs:List (DataW H)} {before:List MemPlace} {tb:TypeId} (hl:laidOutB P=true)
  (hr:fn.params.toList.all (fun t=>P.readableRec t&&decide (t<P.types.size))=true) (hrt:fn.resultTypes=#[tb]) (htb:P.underlying tb=some .bool) (hvars:s.vars=[])
  (hfn:s.fn H ds={ results:=[.lit (.bool true)],args:=ds })
  (hW:DataW.Whole enc P fn.params.toList s.vars false W args.toList ds gs before) (hb:Bel W W'):s.post enc P fn false true false false W args (.bool true) W':=by
 have hW':=hW
 have hlt:∀ x∈before,x.block<W.heap.size:=fun x hx=>hW.lt x hx
 obtain ⟨p,q,hA,hV,rfl,hfz,hnd⟩:=hW
 rw [hvars] at hV
 obtain ⟨rfl,rfl⟩:=trodVars_none hV
 have e:s.fn H (ds++[])={ results:=[.lit (.bool true)],args:=ds }:=by rw [List.append_nil];exact hfn
 refine ⟨ds,[],p++[],[],p,[],hW',?_,?_,?_,hb.frame _,fun h=>by cases h⟩
 ·rw [e,hrt]
  exact trodAll_mk1 (shut_bool htb true)
 ·rw [e]
  exact qv0 hl hb hr hA (fun x hx=>hlt x (by simpa using hx))
 ·rw [e,hvars]
  rfl
end
theorem q3w {H:Type} (d:DataW H):1≤Rows.uptoBulk d:=by
 cases d with
 |lit l=>cases l <;> simp [Rows.uptoBulk]
 |nil=>simp [Rows.uptoBulk]
 |ptr d=>simp [Rows.uptoBulk]
 |slice elems spare=>simp [Rows.uptoBulk]
 |agg parts=>simp [Rows.uptoBulk]
 |iface t d=>simp [Rows.uptoBulk]
 |map entries=>simp [Rows.uptoBulk]
 |held h=>simp [Rows.uptoBulk]
theorem q3u {H:Type}:∀ l:List (DataW H),l.length≤Rows.uptoBulkAll l
 |[]=>by simp
 |x::r=>by have:=q3w x;have:=q3u r;simp only [Rows.uptoBulkAll,List.length_cons];omega
theorem q3v {H:Type} {d:DataW H}:∀ {l:List (DataW H)},d∈l→Rows.uptoBulk d≤Rows.uptoBulkAll l
 |x::r,h=>by
  simp only [Rows.uptoBulkAll]
  rcases List.mem_cons.1 h with rfl|h
  ·omega
  ·have:=q3v h;omega
theorem q3x {H:Type} {l:List (DataW H)} (hk:Rows.uptoSmall H l=true):Rows.uptoBulkAll l≤1048576:=of_decide_eq_true hk
def Zw (w:World):ZMap:=fun b o=>w.cell? ⟨b,o,none⟩
def RepL (Z:ZMap):List Value→List C→Prop
 |[],[]=>True
 |u::us,x::xs=>RepC Z u x∧RepL Z us xs
 |_,_=>False
theorem RepL.len {Z:ZMap}:∀ {us:List Value} {xs:List C},RepL Z us xs→us.length=xs.length
 |[],[],_=>rfl
 |u::us,x::xs,h=>by simp [RepL.len h.2]
 |[],_::_,h=>h.elim
 |_::_,[],h=>h.elim
theorem RepL.get {Z:ZMap}:∀ {us:List Value} {xs:List C},RepL Z us xs→∀ (i:Nat) u x,us[i]?=some u→xs[i]?=some x→RepC Z u x
 |[],[],_,i,u,x,h,_=>by simp at h
 |u::us,x::xs,h,i,u',x',h1,h2=>by
  cases i with
  |zero=>simp at h1 h2;subst h1 h2;exact h.1
  |succ i=>simp at h1 h2;exact RepL.get h.2 i u' x' h1 h2
 |[],_::_,h,_,_,_,_,_=>h.elim
 |_::_,[],h,_,_,_,_,_=>h.elim
theorem q7i {α:Type} {k:Nat}:∀ {css:List (List α)},(∀ cs∈css,cs.length=k)→∀ (i j:Nat) cs,css[i]?=some cs→j<k→css.flatten[i*k+j]?=cs[j]?
 |[],_,i,j,cs,h,_=>by simp at h
 |c::css,hk,i,j,cs,h,hj=>by
  have hc:c.length=k:=hk c (by simp)
  cases i with
  |zero =>
   simp at h;subst h
   rw [List.flatten_cons,List.getElem?_append_left (by omega)]
   simp
  |succ i =>
   simp at h
   rw [List.flatten_cons,List.getElem?_append_right (by rw [hc,Nat.add_mul];omega),←q7i (fun d hd=>hk d (by simp [hd])) i j cs h hj]
   congr 1
   rw [hc,Nat.add_mul];omega
theorem rd_rep {w:World} {k n c:Nat} {A:Option Addr} {css:List (List Value)} {es:List (List C)} (hr:Rd w k A n c css.flatten) (hn:css.length=n) (hN:A=none→c=0) (hk:0<k) (hcs:∀ cs∈css,cs.length=k) (hl:es.length=css.length)
  (he:∀ (i:Nat) cs e,css[i]?=some cs→es[i]?=some e→RepL (Zw w) cs e):RepC (Zw w) (.slice A n c) (.sl es):=by
 have helen:∀ e∈es,e.length=k:=fun e hm=>by
  obtain ⟨i,hi,rfl⟩:=List.getElem_of_mem hm
  have hx:i<css.length:=by omega
  rw [←(he i _ _ (List.getElem?_eq_getElem hx) (List.getElem?_eq_getElem hi)).len]
  exact hcs _ (List.getElem_mem hx)
 by_cases h0:es=[]
 ·subst h0
  have:n=0:=by rw [←hn,←hl];rfl
  exact .sl A n c k 0 0 (fun _=>.nilFunc) [] (by simp [this]) hr.le hr.2.2.1 (by simp) (by simp) (by simp) (by simp) hN
 ·have hn0:0<n*k:=by
   have:0<es.length:=List.length_pos_iff.2 h0
   exact Nat.mul_pos (by omega) hk
  obtain ⟨b,off,hA,_,hcell⟩:=hr.place hn0
  have hget:∀ (i:Nat) (e:List C) (j:Nat) (x:C),es[i]?=some e→e[j]?=some x→∃ u,css.flatten[i*k+j]?=some u∧RepC (Zw w) u x:=by
   intro i e j x h1 h2
   have hi:i<css.length:=by
    have:=(List.getElem?_eq_some_iff.1 h1).1
    omega
   have hj:j<k:=by
    rw [←helen e (List.mem_of_getElem? h1)]
    exact (List.getElem?_eq_some_iff.1 h2).1
   have hcl:=hcs _ (List.getElem_mem hi)
   have hu:css[i][j]?=some (css[i][j]'(by omega)):=List.getElem?_eq_getElem _
   exact ⟨_,by rw [q7i hcs i j css[i] (List.getElem?_eq_getElem hi) hj,hu],(he i _ e (List.getElem?_eq_getElem hi) h1).get j _ x hu h2⟩
  refine .sl A n c k b off (fun j=>(css.flatten[j]?).getD .nilFunc) es (by omega) hr.le hr.2.2.1 helen (fun _=>hA) ?_ ?_ hN
  ·intro i e j x h1 h2
   obtain ⟨u,hu,_⟩:=hget i e j x h1 h2
   simp only [hu,Option.getD_some]
   exact hcell _ _ hu
  ·intro i e j x h1 h2
   obtain ⟨u,hu,hr'⟩:=hget i e j x h1 h2
   simp only [hu,Option.getD_some]
   exact hr'
theorem qcl {H:Type} {enc:TypeId×Value→H} {P:Program} {w:World} {base:Nat} {spare:Nat→Bool} {held:Bool} {t e:TypeId} {fuel n c:Nat} {A:Option Addr} {x:DataW H×List MemPlace} (ht:P.underlying t=some (.slice e))
  (h:DataW.trod enc P w base spare held fuel t [.slice A n c]=some x):A=none→c=0:=by
 intro hA
 subst hA
 rcases open_slice ht h with ⟨hcs,_⟩|⟨a,len,cap,m,n',D,Pl,hcs,_⟩
 ·injection hcs with hcs
  injection hcs
 ·injection hcs with hcs
  injection hcs with h1
  cases h1
section
variable {H:Type} {enc:TypeId×Value→H} {P:Program}
theorem qdu {w:World} {base:Nat} {spare:Nat→Bool} {held:Bool} {t e:TypeId} {k fuel:Nat} {v:Value} {x:DataW H×List MemPlace} (ht:P.underlying t=some (.slice e)) (hC:P.cellsOf e=k) (hk:0<k)
  (h:DataW.trod enc P w base spare held fuel t [v]=some x) (hone:∀ fuel cs y,Rows.uptoBulk y.1<Rows.uptoBulk x.1→DataW.trod enc P w base spare held fuel e cs=some y→∀ u∈cs,u.oneCell'=true) :
  ∃ A n c css ds,v=.slice A n c∧Rd w k A n c (List.flatten css)∧css.length=n∧ds.length=n∧Rows.uptoBulkAll ds+1≤Rows.uptoBulk x.1∧∀ (i:Nat) cs d,css[i]?=some cs→ds[i]?=some d→cs.length=k∧∃ fuel pl,DataW.trod enc P w base spare held fuel e cs=some (d,pl):=by
 rcases open_slice ht h with ⟨hcs,_⟩|⟨a,len,cap,m,n,D,Pl,hcs,_,hl,hm,hmm,hxx,hi⟩
 ·injection hcs with hcs
  exact ⟨none,0,0,[],[],hcs,Rd.nil,rfl,rfl,by have:=q3w x.1;simp only [Rows.uptoBulkAll];omega,by simp⟩
 ·injection hcs with hcs
  have hlm:len≤m:=by rw [hmm];split <;> omega
  have hsum:Rows.uptoBulkAll ((List.range len).map D)+1≤Rows.uptoBulk x.1:=by rw [hxx];simp only [Rows.uptoBulk];omega
  have hDb:∀ i,i<len→Rows.uptoBulk (D i)<Rows.uptoBulk x.1:=fun i hi'=>by
   have:=q3v (List.mem_map.2 ⟨i,List.mem_range.2 hi',rfl⟩:D i∈(List.range len).map D)
   omega
  have hex:∀ i,i<len→∃ cs',w.cells? base (a.add (i*k)) k=some cs'∧DataW.trod enc P w base spare held n e cs'=some (D i,Pl i):=fun i hi'=>by
   have:=hi i (by omega)
   rwa [hC] at this
  obtain ⟨C,hCC⟩:=choose_lt (α:=List Value) (p:=fun i cs'=>w.cells? base (a.add (i*k)) k=some cs'∧DataW.trod enc P w base spare held n e cs'=some (D i,Pl i)) hex
  have hlen:∀ i,i<len→(C i).length=k:=fun i hi'=>(World.cells?_some (hCC i hi').1).2.1
  have hcell:∀ i,i<len→∀ j,j<k→w.cell? (a.add (i*k+j))=(C i)[j]?:=fun i hi' j hj=>by
   have:=(World.cells?_some (hCC i hi').1).2.2 j hj
   rwa [Go.Deep.add_add] at this
  have hfl:∀ m',m'≤len→(((List.range m').map C).flatten).length=m'*k:=by
   intro m' hm'
   induction m' with
   |zero=>simp
   |succ m' ih =>
    rw [List.range_succ,List.map_append,List.flatten_append,List.length_append,ih (by omega)]
    simp [hlen m' (by omega),Nat.add_mul]
  have hget:∀ m',m'≤len→∀ i j,i<m'→j<k→(((List.range m').map C).flatten)[i*k+j]?=(C i)[j]?:=by
   intro m' hm'
   induction m' with
   |zero=>intro i j hi';omega
   |succ m' ih =>
    intro i j hi' hj
    rw [List.range_succ,List.map_append,List.flatten_append]
    rcases Nat.lt_or_ge i m' with h'|h'
    ·rw [List.getElem?_append_left (by
      rw [hfl m' (by omega)]
      have:(i+1)*k≤m'*k:=Nat.mul_le_mul_right k h'
      rw [Nat.add_mul] at this
      omega)]
     exact ih (by omega) i j h' hj
    ·have:i=m':=by omega
     subst this
     rw [List.getElem?_append_right (by rw [hfl i (by omega)];omega),hfl i (by omega)]
     simp
  refine ⟨some a,len,cap,(List.range len).map C,(List.range len).map D,hcs,⟨by rw [hfl len (Nat.le_refl _)],hl,hm,?_,?_⟩,by simp,by simp,hsum,?_⟩
  ·intro u hu
   obtain ⟨cs,hcs',hu'⟩:=List.mem_flatten.1 hu
   obtain ⟨i,hi',rfl⟩:=List.mem_map.1 hcs'
   exact hone n _ _ (hDb i (by simpa using hi')) (hCC i (by simpa using hi')).2 u hu'
  ·intro hpos
   have hl0:0<len:=Nat.pos_of_mul_pos_right hpos
   have h00:=hcell 0 hl0 0 hk
   have hc0:(C 0)[0]?=some ((C 0)[0]'(by rw [hlen 0 hl0];exact hk)):=List.getElem?_eq_getElem _
   rw [hc0] at h00
   have hadd:(a.add (0*k+0))=a:=by simp [Addr.add]
   rw [hadd] at h00
   obtain ⟨b,off,spot⟩:=a
   have hsp:spot=none:=by
    cases spot with
    |none=>rfl
    |some s =>
     unfold World.cell? at h00
     split at h00 <;> simp at h00
   subst hsp
   refine ⟨b,off,rfl,?_,?_⟩
   ·rcases Nat.lt_or_ge b w.heap.size with hlt|hge
    ·exact hlt
    ·unfold World.cell? at h00
     rw [Array.getElem?_eq_none hge] at h00
     cases h00
   ·intro j u hu
    have hjl:j<len*k:=by
     rw [←hfl len (Nat.le_refl _)]
     rcases Nat.lt_or_ge j ((List.range len).map C).flatten.length with h'|h'
     ·exact h'
     ·rw [List.getElem?_eq_none h'] at hu;cases hu
    have hdm:j / k*k+j % k=j:=by rw [Nat.mul_comm];exact Nat.div_add_mod j k
    have hdl:j / k<len:=(Nat.div_lt_iff_lt_mul hk).2 hjl
    have h1:=hcell (j / k) hdl (j % k) (Nat.mod_lt _ hk)
    have h2:=hget len (Nat.le_refl _) (j / k) (j % k) hdl (Nat.mod_lt _ hk)
    rw [hdm] at h1 h2
    rw [h2] at hu
    rw [hu] at h1
    rw [←h1]
    unfold Addr.add
    split
    ·rename_i h0;subst h0;rfl
    ·rfl
  ·intro i cs d h1 h2
   have hi':i<len:=by
    have:=(List.getElem?_eq_some_iff.1 h1).1
    simpa using this
   rw [List.getElem?_map,List.getElem?_range hi'] at h1 h2
   simp only [Option.map_some,Option.some.injEq] at h1 h2
   subst h1 h2
   exact ⟨hlen i hi',n,_,(hCC i hi').2⟩
end
def All2 {α β:Type} (R:α→β→Prop):List α→List β→Prop
 |[],[]=>True
 |a::l,b::m=>R a b∧All2 R l m
 |_,_=>False
theorem q17 {α β:Type} {R:α→β→Prop}:∀ {l:List α} {m:List β},l.length=m.length→(∀ (i:Nat) a b,l[i]?=some a→m[i]?=some b→R a b)→All2 R l m
 |[],[],_,_=>trivial
 |a::l,b::m,h,hR=>⟨hR 0 a b rfl rfl,q17 (by simpa using h) fun i x y hx hy=>hR (i+1) x y hx hy⟩
 |[],_::_,h,_=>by cases h
 |_::_,[],h,_=>by cases h
theorem qgr {H:Type} {enc:TypeId×Value→H} {w:World} {t e:TypeId} {k fuel:Nat} {v:Value} {x:DataW H×List MemPlace} {τ:Type} (E:EC τ) (R:τ→DataW H→Prop) (ht:Tryz.prog.underlying t=some (.slice e)) (hC:Tryz.prog.cellsOf e=k) (hk:0<k)
  (h:DataW.trod enc Tryz.prog w 0 (fun _=>true) true fuel t [v]=some x)
  (hE:∀ fuel cs y,Rows.uptoBulk y.1<Rows.uptoBulk x.1→DataW.trod enc Tryz.prog w 0 (fun _=>true) true fuel e cs=some y→∃ a:τ,RepL (Zw w) cs (E.enc a)∧R a y.1) :
  ∃ (l:List τ) (ds:List (DataW H)),RepC (Zw w) v (.sl (E.encL l))∧Rows.uptoBulkAll ds+1≤Rows.uptoBulk x.1∧All2 R l ds:=by
 obtain ⟨A,n,c,css,ds,hv,hr,hn,hn',hsum,hcs⟩:=qdu ht hC hk h (fun fuel cs y hb hy u hu=>by
  obtain ⟨a,ha,_⟩:=hE fuel cs y hb hy
  obtain ⟨i,hi,rfl⟩:=List.getElem_of_mem hu
  have hx:i<(E.enc a).length:=by rw [←ha.len];exact hi
  exact (ha.get i _ _ (List.getElem?_eq_getElem hi) (List.getElem?_eq_getElem hx)).one)
 subst hv
 haveI:Inhabited τ:=⟨E.dec []⟩
 have hall:∀ i,i<css.length→∃ a:τ,(∀ cs,css[i]?=some cs→RepL (Zw w) cs (E.enc a))∧(∀ d,ds[i]?=some d→R a d):=fun i hi=>by
  have hi':i<ds.length:=by omega
  obtain ⟨_,fuel,pl,hy⟩:=hcs i _ _ (List.getElem?_eq_getElem hi) (List.getElem?_eq_getElem hi')
  have hb:=q3v (List.getElem_mem hi')
  obtain ⟨a,ha,hra⟩:=hE fuel _ _ (by show Rows.uptoBulk ds[i]<_;omega) hy
  exact ⟨a,fun cs h=>by rw [List.getElem?_eq_getElem hi] at h;injection h with h;subst h;exact ha,fun d h=>by rw [List.getElem?_eq_getElem hi'] at h;injection h with h;subst h;exact hra⟩
 obtain ⟨F,hF⟩:=choose_lt (α:=τ) (n:=css.length) hall
 refine ⟨(List.range css.length).map F,ds,rd_rep hr hn (qcl ht h) hk (fun cs hc=>by
  obtain ⟨i,hi,rfl⟩:=List.getElem_of_mem hc
  exact (hcs i _ _ (List.getElem?_eq_getElem hi) (List.getElem?_eq_getElem (show i<ds.length by omega))).1) (by simp [EC.encL]) ?_,hsum,q17 (by simp;omega) ?_⟩
 ·intro i cs e h1 h2
  have hi:i<css.length:=(List.getElem?_eq_some_iff.1 h1).1
  rw [EC.encL,List.getElem?_map,List.getElem?_map,List.getElem?_range hi] at h2
  simp only [Option.map_some,Option.some.injEq] at h2
  subst h2
  exact (hF i hi).1 cs h1
 ·intro i a d h1 h2
  have hi:i<css.length:=by have:=(List.getElem?_eq_some_iff.1 h1).1;simpa using this
  rw [List.getElem?_map,List.getElem?_range hi] at h1
  simp only [Option.map_some,Option.some.injEq] at h1
  subst h1
  exact (hF i hi).2 d h2
end Go.Proofs.YtognhcibcocbkaaGreatDoor
