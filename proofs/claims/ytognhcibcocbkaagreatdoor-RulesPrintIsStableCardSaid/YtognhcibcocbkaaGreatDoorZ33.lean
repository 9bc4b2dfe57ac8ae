/- The program prints rules as specified. -/
import Derived.Test.YtognhcibcocbkaaGreatDoorZ32
import Derived.Test.YtognhcibcocbkaaGreatDoorZ31
import Derived.Test.YtognhcibcocbkaaGreatDoorZ01
import Derived.Test.YtognhcibcocbkaaGreatDoorChecked
import Derived.ProofKit
import Derived.OpenShut
import Derived.JoinedCond
import Derived.Deep.Slices
import Derived.Deep.Fields
import Derived.Lib.SmallJoins
import Derived.Test.YtognhcibcocbkaaGreatDoorRows
import Derived.Test.YtognhcibcocbkaaGreatDoorZ27
namespace Go.Proofs.YtognhcibcocbkaaGreatDoor
open Go.RowKit
theorem vL_mem {l:List S59} {d:Nat} (h:vL l d) {r:S59} (hr:r∈l):vR r d:=by
 induction l with
 |nil=>cases hr
 |cons a l ih =>
  rcases List.mem_cons.1 hr with rfl|hr
  ·exact h.1
  ·exact ih h.2 hr
theorem q1aw {l:List S59} {r:S59} (hr:r∈l):tsz r≤tszL l:=by
 induction l with
 |nil=>cases hr
 |cons a l ih =>
  simp only [tszL]
  rcases List.mem_cons.1 hr with rfl|hr
  ·omega
  ·have:=ih hr;omega
theorem q1ax (r:S59):1≤tsz r:=by rw [tsz_eq,q1ay];omega
theorem q17e:∀ l:List S59,l.length≤tszL l
 |[]=>Nat.zero_le _
 |r::l=>by have:=q17e l;have:=q1ax r;simp only [tszL,List.length_cons];omega
theorem g7_s {l:List UInt8} (h:l.length≤1000000000000000):q19d (baL l)=some (baL (l++[10]),()):=by
 refine q19f ?_
 simp (disch:=omega) only [q19j,↓q3w,↓reduceIte,foldB,q30,q2y,List.length_cons,List.length_nil,gm,Bool.false_eq_true]
theorem g17_s {l:List UInt8} (h:l.length≤1000000000000000):q196 (baL l)=some (baL (l++[59,10]),()):=by
 refine q198 ?_
 simp (disch:=omega) only [q19c,↓q3w,↓reduceIte,foldB,q30,q2y,List.length_cons,List.length_nil,gm,Bool.false_eq_true]
theorem g15_6 {l:List UInt8} (h:l.length≤1000000000000) (k tk:Int) (tts:List S57) (tnm:ByteArray) (tp:Int) (ttx:ByteArray) (tn:Int) (th el:List S59) (nm tx:ByteArray) {n:Int} (hn:0≤n∧n≤1000000) :
  q18z (baL l) k tk tts tnm tp ttx tn th el 6 nm tx n=some (baL (l++32::(Lib.decDigits n.toNat++[59,10])),()):=by
 have hi:=ito_s hn
 have hdl:=q5c 6 n.toNat (by omega)
 refine q191 ?_
 have g:=g17_s (l:=l++([32]++Lib.decDigits n.toNat)) (by simp only [List.length_append,List.length_cons,List.length_nil];omega)
 simp (disch:=omega) only [q195,↓q3w,↓reduceIte,beq_self_eq_true,hi,Option.bind_some,foldB,q30,q2y,List.length_append,List.length_cons,List.length_nil,gm,Bool.false_eq_true,g]
 simp
theorem g15_n {l:List UInt8} (h:l.length≤1000000000000) (k tk:Int) (tts:List S57) (tnm:ByteArray) (tp:Int) (ttx:ByteArray) (tn:Int) (th el:List S59) {act:Int} (ha:¬ act=6) (nm tx:ByteArray) (n:Int) :
  q18z (baL l) k tk tts tnm tp ttx tn th el act nm tx n=some (baL (l++[59,10]),()):=by
 have e6:(act==6)=false:=by simpa using ha
 refine q191 ?_
 simp (disch:=omega) only [q195,↓q3w,↓reduceIte,e6,Option.bind_some,Bool.false_eq_true,g17_s]
noncomputable def ofR (r:S59) (d:Int):Option ByteArray:=q19k r.Kind r.Test_Kind r.Test_Tests r.Test_Name r.Test_Pattern r.Test_Text r.Test_N r.Then r.Else r.Act r.Name r.Text r.N d
theorem q17y (d:Nat) (l:List S59) (hl:l.length≤1000000000) (hz:tszL l≤1000000000) (hr:∀ r∈l,ofR r (d:Int)=some (baL (ruleL r d))∧(ruleL r d).length≤2000*tsz r) :
  ∀ m i (acc:List UInt8),i+m=l.length→acc.length+2000*tszL (l.drop i)≤2000*tszL l→q19q (d:Int) (baL acc) l (l.length:Int) (i:Int)=some (((d:Int),(baL (acc++rulesL (l.drop i) d),(l,((l.length:Int),((l.length:Int),false))))),()):=by
 intro m
 induction m with
 |zero =>
  intro i acc hi _
  have hi:i=l.length:=by omega
  subst hi
  refine q19s ?_
  simp only [q19w,z12,gL,dL,eC,wI,p0,uL,q3w,q8t,EC.decL_encL,EC.isL_encL,EC.encL_length,qab,q2g,q2h,q2l,q2m,q2n,q2o,q2p,q2q,q2r,q2s,q2i,q2j,q2k,show ¬ ((l.length:Int)<(l.length:Int)) by omega,decide_false,Bool.false_eq_true,if_false,if_true,List.drop_length,rulesL,List.append_nil]
 |succ m ihm =>
  intro i acc hi ha
  have hlt:i<l.length:=by omega
  obtain ⟨h1,h1l⟩:=hr _ (List.getElem_mem hlt)
  have hm:=q1aw (List.getElem_mem hlt)
  have h1:q19k l[i].Kind l[i].Test_Kind l[i].Test_Tests l[i].Test_Name l[i].Test_Pattern l[i].Test_Text l[i].Test_N l[i].Then l[i].Else l[i].Act l[i].Name l[i].Text l[i].N (d:Int)=some (baL (ruleL l[i] d)):=h1
  have w1:IntKind.i64.wrap ((i:Int)+1)=((i+1:Nat):Int):=q168 hlt (by omega)
  have hdz:tszL (l.drop i)=tsz l[i]+tszL (l.drop (i+1)):=by rw [q5p hlt];rfl
  have hacc:acc.length+(ruleL l[i] d).length≤9223372036854775807:=by omega
  have h2:=ihm (i+1) (acc++ruleL l[i] d) (by omega) (by rw [List.length_append];omega)
  rw [q5p hlt,rulesL,←List.append_assoc]
  refine q19s ?_
  simp (disch:=omega) only [q19w,z12,gL,dL,eC,wI,p0,uL,q3w,q8t,EC.decL_encL,EC.isL_encL,EC.encL_length,qab,q2g,q2h,q2l,q2m,q2n,q2o,q2p,q2q,q2r,q2s,q2i,q2j,q2k,show ((i:Int)<(l.length:Int)) by omega,show (0:Int)≤(i:Int) by omega,decide_true,Int.toNat_natCast,hlt,Bool.and_self,if_true,q8w hlt,h1,Option.bind_some,w1,q30,q2y,gm,Bool.false_eq_true,if_false,h2]
theorem ofS_of (d:Nat) (l:List S59) (hz:tszL l≤1000000000) (hr:∀ r∈l,ofR r (d:Int)=some (baL (ruleL r d))∧(ruleL r d).length≤2000*tsz r):q19x l (d:Int)=some (baL (rulesL l d)):=by
 have h:=q17y d l (by have:=q17e l;omega) hz hr l.length 0 [] (by omega) (by simp)
 have h:q19q (d:Int) noTx l (l.length:Int) 0=_:=h
 refine q19p ?_
 simp only [q19y,gL,dL,lN,q8t,EC.decL_encL,EC.isL_encL,EC.encL_length,if_true,h,Option.bind_some,List.nil_append,List.drop_zero]
theorem q170 {a:Int} (h:1≤a∧a≤7):[baL wKeep,baL wFile,baL wDiscard,baL wRedirect,baL wReject,baL wFlag,baL wReply].getD (Int.toNat (a - 1)) ByteArray.empty=baL (actW a):=by
 have:a=1∨a=2∨a=3∨a=4∨a=5∨a=6∨a=7:=by omega
 rcases this with rfl|rfl|rfl|rfl|rfl|rfl|rfl <;> rfl
theorem q18h {d:Nat} {r:S59} (hd:d≤8) (h:vR r (d+1)):(ruleL r d).length≤2000*tsz r:=by
 have:=q18o (8 - d) d (by omega) [r] ⟨h,trivial⟩
 simpa [rulesL,tszL] using this
section
variable (tk:Int) (tts:List S57) (tnm:ByteArray) (tp:Int) (ttx:ByteArray) (tn:Int) (th el:List S59) (act:Int) (nm tx:ByteArray) (n d d1:Int) (I T A E:List UInt8)
 (hI:I.length≤1000) (hT:T.length≤10000000000000) (hA:A.length≤10000000000000) (hrep:repP (baL [32,32]) d=some (baL I)) (ht:q1a3 tk tts tnm tp ttx tn=some (baL T)) (w1:IntKind.i64.wrap (d+1)=d1) (iht:q19x th d1=some (baL A))
include hI hT hA hrep ht w1 iht
set_option maxHeartbeats 2000000 in
theorem q17w:q19k 1 tk tts tnm tp ttx tn th [] act nm tx n d=some (baL (I++([105,102,32]++(T++([32,123,10]++(A++(I++([125]++[10])))))))):=by
 have ce:decide (((0:Nat):Int)>0)=false:=rfl
 have g:=g7_s (l:=I++([105,102,32]++(T++([32,123,10]++(A++(I++[125])))))) (by simp only [List.length_append,List.length_cons,List.length_nil];omega)
 refine q18y ?_
 simp (disch:=omega) only [q19l,z13,gL,dL,lN,wI,p0,↓q3w,↓q8t,↓reduceIte,EC.decL_encL,EC.isL_encL,EC.encL_length,foldB,hrep,Option.bind_some,beq_self_eq_true,ht,w1,iht,ce,q30,q2y,List.length_append,List.length_cons,List.length_nil,gm,Bool.false_eq_true,List.append_assoc,g]
set_option maxHeartbeats 8000000 in
theorem q17x (hel:0<el.length) (hE:E.length≤10000000000000) (ihe:q19x el d1=some (baL E)):q19k 1 tk tts tnm tp ttx tn th el act nm tx n d =
  some (baL (I++([105,102,32]++(T++([32,123,10]++(A++(I++([125]++([32,101,108,115,101,32,123,10]++(E++(I++([125]++[10])))))))))))):=by
 have ce:decide (((el.length:Nat):Int)>0)=true:=by simp;omega
 have g:=g7_s (l:=I++([105,102,32]++(T++([32,123,10]++(A++(I++([125]++([32,101,108,115,101,32,123,10]++(E++(I++[125])))))))))) (by simp only [List.length_append,List.length_cons,List.length_nil];omega)
 refine q18y ?_
 simp (maxSteps:=2000000) (disch:=omega) only [q19l,z13,gL,dL,lN,wI,p0,↓q3w,↓q8t,↓reduceIte,EC.decL_encL,EC.isL_encL,EC.encL_length,foldB,hrep,Option.bind_some,beq_self_eq_true,ht,w1,iht,ihe,ce,q30,q2y,List.length_append,List.length_cons,List.length_nil,gm,Bool.false_eq_true,List.append_assoc,g]
end
theorem ofR_s (d:Nat) (r:S59) (hv:vR r (d+1)) (hz:tsz r≤1000000000) (iht:q19x r.Then ((d+1:Nat):Int)=some (baL (rulesL r.Then (d+1)))) (ihe:q19x r.Else ((d+1:Nat):Int)=some (baL (rulesL r.Else (d+1)))) :
  ofR r (d:Int)=some (baL (ruleL r d)):=by
 obtain ⟨F,v1,v2⟩:=q1az hv
 have hd8:=F.d8
 have hrH:rHead r=0:=by
  cases r
  exact hv.2.1
 have S:=q18d hrH
 have hlt:=q18o (7 - d) (d+1) (by omega) r.Then v1
 have hle:=q18o (7 - d) (d+1) (by omega) r.Else v2
 have htz:=tsz_eq r
 have hrep:=rep_s (d:=d) (by omega)
 have hil:=q178 d
 obtain ⟨k,tk,tts,tnm,tp,ttx,tn,th,el,act,nm,tx,n⟩:=r
 have q2:=quo_le (bl tx)
 rw [bl_len] at q2
 have hk:=F.k
 have hk1:=F.k1
 have hac:=F.ac
 simp only [tOf] at *
 clear v1 v2 F hrH hv
 have hq:=quo_s (s:=tx) (by omega)
 have w1:IntKind.i64.wrap ((d:Int)+1)=((d+1:Nat):Int):=q168 (n:=1000) (by omega) (by omega)
 show q19k k tk tts tnm tp ttx tn th el act nm tx n (d:Int)=some (baL (ruleL ⟨k,tk,tts,tnm,tp,ttx,tn,th,el,act,nm,tx,n⟩ d))
 have hcase:k=1∨k=2∨k=3∨k=4:=by omega
 rcases hcase with rfl|rfl|rfl|rfl
 ·have ht0:=(hk1 rfl).2.2.2.2
  have ht:=ofT_s 8 1 rfl ⟨tk,tts,tnm,tp,ttx,tn⟩ ht0 (by omega)
  have htl:=q1ap ht0
  have ht:q1a3 tk tts tnm tp ttx tn=some (baL (testL ⟨tk,tts,tnm,tp,ttx,tn⟩)):=ht
  cases el with
  |nil =>
   refine (q17w tk tts tnm tp ttx tn th act nm tx n (d:Int) _ _ _ _ (by omega) (by omega) (by omega) hrep ht w1 iht).trans ?_
   simp [ruleL,wIf]
  |cons e0 el =>
   refine (q17x tk tts tnm tp ttx tn th (e0::el) act nm tx n (d:Int) _ _ _ _ _ (by omega) (by omega) (by omega) hrep ht w1 iht (by simp) (by omega) ihe).trans ?_
   simp [ruleL,wIf,wElse]
 ·obtain ⟨a1,a2,a3,a4⟩:=hac rfl
  refine q18y ?_
  have hwl:=q16z a1
  have wa:IntKind.i64.wrap (act - 1)=act - 1:=q167 (by omega)
  have ga:=q170 a1
  have gi:((decide (0≤act - 1)&&decide (act - 1<((7:Nat):Int)))&&decide (Int.toNat (act - 1)<[baL wKeep,baL wFile,baL wDiscard,baL wRedirect,baL wReject,baL wFlag,baL wReply].length))=true:=by
   simp only [Bool.and_eq_true,decide_eq_true_eq,List.length_cons,List.length_nil];omega
  have e1:((2:Int)==1)=false:=rfl
  have e3:((2:Int)==3)=false:=rfl
  have e4:((2:Int)==4)=false:=rfl
  cases htx:txtB act with
  |true =>
   have n6:¬ act=6:=fun e=>by rw [e] at htx;cases htx
   simp (disch:=omega) only [q19l,z13,gL,dL,lN,wI,p0,↓q3w,↓q8t,↓reduceIte,EC.decL_encL,EC.isL_encL,foldB,hrep,Option.bind_some,e1,e3,e4,qp,wa,ga,q153,htx,hq,q30,q2y,List.length_append,List.length_cons,List.length_nil,gm,Bool.false_eq_true]
   rw [g15_n (by simp only [List.length_append,List.length_cons,List.length_nil];omega) _ _ _ _ _ _ _ _ _ n6]
   simp [ruleL,htx]
   omega
  |false =>
   by_cases h6:act=6
   ·subst h6
    simp (disch:=omega) only [q19l,z13,gL,dL,lN,wI,p0,↓q3w,↓q8t,↓reduceIte,EC.decL_encL,EC.isL_encL,foldB,hrep,Option.bind_some,e1,e3,e4,qp,wa,ga,q153,htx,q30,q2y,List.length_cons,List.length_nil,gm,Bool.false_eq_true]
    rw [g15_6 (by simp only [List.length_append];omega) _ _ _ _ _ _ _ _ _ _ _ (by omega)]
    simp [ruleL,htx]
   ·simp (disch:=omega) only [q19l,z13,gL,dL,lN,wI,p0,↓q3w,↓q8t,↓reduceIte,EC.decL_encL,EC.isL_encL,foldB,hrep,Option.bind_some,e1,e3,e4,qp,wa,ga,q153,htx,q30,q2y,List.length_cons,List.length_nil,gm,Bool.false_eq_true]
    rw [g15_n (by simp only [List.length_append];omega) _ _ _ _ _ _ _ _ _ h6]
    simp [ruleL,htx,h6]
    omega
 ·refine q18y ?_
  have e1:((3:Int)==1)=false:=rfl
  obtain ⟨NM,rfl⟩:∃ l,nm=baL l:=⟨bl nm,(ba_bl nm).symm⟩
  have hN:bl (baL NM)=NM:=q2z NM
  have hns:=S.2
  rw [q30] at hns
  simp (disch:=omega) only [q19l,z13,gL,dL,lN,wI,p0,↓q3w,↓reduceIte,foldB,hrep,Option.bind_some,e1,beq_self_eq_true,hq,q30,q2y,List.length_append,List.length_cons,List.length_nil,gm,Bool.false_eq_true]
  simp [ruleL,wSet,hN]
 ·refine q18y ?_
  have e1:((4:Int)==1)=false:=rfl
  have e3:((4:Int)==3)=false:=rfl
  simp (disch:=omega) only [q19l,z13,gL,dL,lN,wI,p0,↓q3w,↓reduceIte,foldB,hrep,Option.bind_some,e1,e3,beq_self_eq_true,q30,q2y,List.length_cons,List.length_nil,gm,Bool.false_eq_true]
  simp [ruleL,wStop]
theorem ofS_s:∀ (e d:Nat),d+e=8→∀ l:List S59,vL l (d+1)→tszL l≤1000000000→q19x l (d:Int)=some (baL (rulesL l d))
 |0,d,hd,l,hv,hz=>ofS_of d l hz fun r hr=>by have:=(q1az (vL_mem hv hr)).1.d8;omega
 |e+1,d,hd,l,hv,hz=>ofS_of d l hz fun r hr=>by
  have h1:=vL_mem hv hr
  have h2:=q1aw hr
  have h3:=tsz_eq r
  obtain ⟨_,v1,v2⟩:=q1az h1
  exact ⟨ofR_s d r h1 (by omega) (ofS_s e (d+1) (by omega) r.Then v1 (by omega)) (ofS_s e (d+1) (by omega) r.Else v2 (by omega)),q18h (by omega) h1⟩
def sPrint (l:List S59):ByteArray×(Int×Int):=if (scriptF l).1≠0 then (noTx,scriptF l) else if 4000<(rulesL l 0).length then (noTx,(1,-1)) else (baL (rulesL l 0),(0,0))
theorem q1a9 {l:List S59} (h:(scriptF l).1=0):vL l 1:=by
 obtain ⟨m,h1,_,_⟩:=q1aa h
 exact ck_v _ l rfl _ _ _ h1
theorem q18b (l:List S59) (hl:l.length≤big) (ho:okL l) (hz:(scriptF l).1=0→tszL l≤1000000000):q18m l=some (sPrint l):=by
 have hv:=q15u l hl ho
 unfold sPrint
 by_cases hf:(scriptF l).1=0
 ·have ef:((scriptF l).1 != 0)=false:=by simp [hf]
  have hs:=ofS_s 8 0 rfl l (q1a9 hf) (hz hf)
  have hs:q19x l 0=some (baL (rulesL l 0)):=hs
  rw [if_neg (by simp [hf])]
  by_cases h4:4000<(rulesL l 0).length
  ·rw [if_pos h4]
   refine q18l ?_
   simp only [q18n,gL,dL,↓q3w,↓q8t,↓reduceIte,EC.decL_encL,EC.isL_encL,hv,q79,ef,hs,Option.bind_some,q30,show (((rulesL l 0).length:Nat):Int)>4000 by omega,decide_true,q7a,Bool.false_eq_true]
  ·rw [if_neg h4]
   refine q18l ?_
   simp only [q18n,gL,dL,↓q3w,↓q8t,↓reduceIte,EC.decL_encL,EC.isL_encL,hv,q79,ef,hs,Option.bind_some,q30,show ¬ (((rulesL l 0).length:Nat):Int)>4000 by omega,decide_false,none_s,Bool.false_eq_true]
 ·have ef:((scriptF l).1 != 0)=true:=by simp [hf]
  rw [if_pos hf]
  refine q18l ?_
  simp only [q18n,gL,dL,↓q3w,↓q8t,↓reduceIte,EC.decL_encL,EC.isL_encL,hv,q79,ef,Option.bind_some]
end Go.Proofs.YtognhcibcocbkaaGreatDoor
namespace Go.Proofs.YtognhcibcocbkaaGreatDoor
open Go.RowKit
theorem q1ab {s:List UInt8} {L L':List Tok} (h:sNeed s L=.inr L'):L'.length+1=L.length:=by
 have:=congrArg List.length (q77 h)
 simp only [List.length_map,List.length_cons] at this;omega
theorem q1ad {L:List Tok} {k:Nat} {w:List UInt8} (h:isT k w L=true):L.tail.length+1=L.length:=by
 have:=congrArg List.length (qag h)
 simp only [List.length_map,List.length_cons] at this;omega
theorem q1ae:∀ f,(∀ d L t L',sTest f d L=.inr (t,L')→tzT t+L'.length≤L.length)∧(∀ d L ts L',sTests f d L=.inr (ts,L')→tzL ts+L'.length≤L.length)
 |0=>⟨fun d L t L' h=>by simp [sTest] at h,fun d L t L' h=>by simp [sTests] at h⟩
 |f+1=>by
  obtain ⟨ih,ihs⟩:=q1ae f
  refine ⟨fun d L t L' h=>?_,fun d L ts L' h=>?_⟩
  ·have hlt:L'.length<L.length:=qbw h
   cases L with
   |nil=>simp [sTest] at h
   |cons x r =>
    have pl:∀ (k:Nat) (nm:List UInt8) (p:Nat) (tx:List UInt8) (n:Nat),tzT (tst k [] nm p tx n)=1:=fun k nm p tx n=>by rw [q1ay];rfl
    simp only [sTest] at h
    split at h
    ·cases h
    have lst:∀ k:Nat,(thn (sNeed [40] r) fun r1=>thn (sTests f (d+1) r1) fun y=>thn (sNeed [41] y.2) fun r2=>Sum.inr (tst k y.1 [] 0 [] 0,r2))=.inr (t,L')→tzT t+L'.length≤(x::r).length:=fun k h=>by
     obtain ⟨r1,h1,h⟩:=q158 h
     obtain ⟨y,h2,h⟩:=q158 h
     obtain ⟨r2,h3,h⟩:=q158 h
     injection h with h
     injection h with h e
     subst h e
     have:=ihs (d+1) r1 y.1 y.2 h2
     have:=q1ab h1
     have:=q1ab h3
     rw [q1ay]
     show 1+tzL y.1+_≤_
     simp only [List.length_cons];omega
    split at h
    ·cases h
    ·injection h with h;injection h with h e;subst h;rw [pl];omega
    ·obtain ⟨y,h1,h⟩:=q158 h
     injection h with h;injection h with h e;subst h e
     have:=ih (d+1) r y.1 y.2 h1
     rw [q1ay]
     show 1+tzL [y.1]+_≤_
     simp only [tzL,List.length_cons];omega
    ·exact lst 3 h
    ·exact lst 4 h
    ·obtain ⟨y,h1,h⟩:=q158 h
     obtain ⟨z,h2,h⟩:=q158 h
     injection h with h;injection h with h _;subst h;rw [pl];omega
    ·obtain ⟨y,h1,h⟩:=q158 h
     injection h with h;injection h with h _;subst h;rw [pl];omega
    ·obtain ⟨y,h1,h⟩:=q158 h
     injection h with h;injection h with h _;subst h;rw [pl];omega
    ·obtain ⟨y,h1,h⟩:=q158 h
     injection h with h;injection h with h _;subst h;rw [pl];omega
    ·obtain ⟨y,h1,h⟩:=q158 h
     injection h with h;injection h with h _;subst h;rw [pl];omega
  ·simp only [sTests] at h
   obtain ⟨y,h1,h⟩:=q158 h
   have k1:=ih d L y.1 y.2 h1
   split at h
   ·rename_i hc
    obtain ⟨z,h2,h⟩:=q158 h
    injection h with h;injection h with h e;subst h e
    have:=ihs d y.2.tail z.1 z.2 h2
    have:=q1ad hc
    simp only [tzL];omega
   ·injection h with h;injection h with h e;subst h e
    simp only [tzL];omega
theorem q1ac:∀ f,(∀ d m L r L' m',sRule f d m L=.inr (r,L',m')→tsz r+L'.length≤L.length)∧(∀ d m L l L' m',sBlock f d m L=.inr (l,L',m')→tszL l+L'.length≤L.length) ∧
  (∀ d m L l L' m',sRules f d m L=.inr (l,L',m')→tszL l+L'.length≤L.length)
 |0=>⟨fun d m L t L' m' h=>by simp [sRule] at h,fun d m L t L' m' h=>by simp [sBlock] at h,fun d m L t L' m' h=>by simp [sRules] at h⟩
 |f+1=>by
  obtain ⟨ih,ihb,ihs⟩:=q1ac f
  refine ⟨fun d m L r L' m' h=>?_,fun d m L l L' m' h=>?_,fun d m L l L' m' h=>?_⟩
  ·have hlt:L'.length<L.length:=qbv h
   cases L with
   |nil=>simp [sRule] at h
   |cons x r0 =>
    have pl:∀ (k:Nat) (x nm tx:List UInt8) (ac n:Nat),tsz (rul k t0 [] [] ac nm tx n)=1:=fun k x nm tx ac n=>by rw [tsz_eq];rfl
    simp only [sRule] at h
    split at h
    ·cases h
    split at h
    ·obtain ⟨t,h1,h⟩:=q158 h
     obtain ⟨b,h2,h⟩:=q158 h
     have k1:=(q1ae f).1 1 r0 t.1 t.2 h1
     have k2:=ihb (d+1) (m+1) t.2 b.1 b.2.1 b.2.2 h2
     have e1:∀ el,tsz (rul 1 t.1 b.1 el 0 [] [] 0)=tzT t.1+tszL b.1+tszL el:=fun el=>by
      rw [tsz_eq]
      show tzT ⟨t.1.Kind,t.1.Tests,t.1.Name,t.1.Pattern,t.1.Text,t.1.N⟩+_+_=_
      rw [eta_T];rfl
     split at h
     ·rename_i hc
      obtain ⟨e,h3,h⟩:=q158 h
      injection h with h;injection h with h h';injection h' with h' _;subst h h'
      have k3:=ihb (d+1) b.2.2 b.2.1.tail e.1 e.2.1 e.2.2 h3
      have:=q1ad hc
      rw [e1]
      simp only [List.length_cons];omega
     ·injection h with h;injection h with h h';injection h' with h' _;subst h h'
      rw [e1]
      simp only [List.length_cons,tszL];omega
    split at h
    ·obtain ⟨a,h1,h⟩:=q158 h
     obtain ⟨b,h2,h⟩:=q158 h
     obtain ⟨r1,h3,h⟩:=q158 h
     injection h with h;injection h with h _;subst h;rw [pl _ []];omega
    split at h
    ·obtain ⟨r1,h3,h⟩:=q158 h
     injection h with h;injection h with h _;subst h;rw [pl _ []];omega
    split at h
    ·cases h
    split at h
    ·obtain ⟨a,h1,h⟩:=q158 h
     obtain ⟨r1,h3,h⟩:=q158 h
     injection h with h;injection h with h _;subst h;rw [pl _ []];omega
    split at h
    ·obtain ⟨a,h1,h⟩:=q158 h
     obtain ⟨r1,h3,h⟩:=q158 h
     injection h with h;injection h with h _;subst h;rw [pl _ []];omega
    ·obtain ⟨r1,h3,h⟩:=q158 h
     injection h with h;injection h with h _;subst h;rw [pl _ []];omega
  ·simp only [sBlock] at h
   obtain ⟨r,h1,h⟩:=q158 h
   obtain ⟨y,h2,h⟩:=q158 h
   obtain ⟨r2,h3,h⟩:=q158 h
   injection h with h;injection h with h h';injection h' with h' _;subst h h'
   have:=ihs d m r y.1 y.2.1 y.2.2 h2
   have:=q1ab h1
   have:=q1ab h3
   omega
  ·cases L with
   |nil=>simp only [sRules] at h;injection h with h;injection h with h h';injection h' with h' _;subst h h';simp [tszL]
   |cons x r0 =>
    simp only [sRules] at h
    split at h
    ·injection h with h;injection h with h h';injection h' with h' _;subst h h';simp [tszL]
    ·obtain ⟨y,h1,h⟩:=q158 h
     obtain ⟨z,h2,h⟩:=q158 h
     injection h with h;injection h with h h';injection h' with h' _;subst h h'
     have k1:=ih d m (x::r0) y.1 y.2.1 y.2.2 h1
     have k2:=ihs d y.2.2 y.2.1 z.1 z.2.1 z.2.2 h2
     simp only [tszL];omega
theorem q1a8 {t:List UInt8} {l:List S59} (h:sScript t=.inr l):tszL l≤t.length+1:=by
 have hl:=q15g (t.length+1) t 0
 have hl:(toksF t 0).length≤t.length+1:=hl
 unfold sScript at h
 obtain ⟨y,h1,h⟩:=q158 h
 have k:=(q1ac (fuel t)).2.2 1 0 (toksF t 0) y.1 y.2.1 y.2.2 h1
 split at h
 ·split at h
  ·injection h with h;subst h;omega
  ·cases h
 ·cases h
theorem bl_ba (l:List UInt8):bl (baL l)=l:=q2z l
theorem q185 {l:List S59} (h0:(scriptF l).1=0) (h4:¬ 4000<(rulesL l 0).length):sParse (bl (baL (rulesL l 0)))=(l,(0,0)):=by
 rw [q111,q30,if_neg h4,bl_ba,q18e h0]
 simp only [h0,ne_eq,not_true_eq_false,if_false]
theorem law43 (b:ByteArray):q189 b=some true:=by
 obtain ⟨o1,o2⟩:=q112 b
 refine q188 ?_
 simp only [q18a,gL,dL,lN,↓q3w,↓q8t,↓reduceIte,EC.decL_encL,EC.isL_encL,EC.encL_length,qe1,Option.bind_some]
 by_cases hf:(sParse (bl b)).2.1=0
 ·-- the script
  have hsp:=q111 b
  have h4:¬ 4000<b.size:=fun h=>by rw [if_pos h] at hsp;rw [hsp] at hf;cases hf
  rw [if_neg h4] at hsp
  cases hs:sScript (bl b) with
  |inl o=>rw [hs] at hsp;rw [hsp] at hf;cases hf
  |inr l =>
   rw [hs] at hsp
   simp only at hsp
   by_cases h0:(scriptF l).1=0
   case neg=>rw [if_pos h0] at hsp;rw [hsp] at hf;exact absurd hf h0
   rw [if_neg (by simp [h0])] at hsp
   have hz:=q1a8 hs
   have hbl:(bl b).length=b.size:=by simp [bl]
   rw [hsp] at o1 o2 ⊢
   simp only at o1 o2
   have hp:=q18b l o1 o2 (fun _=>by omega)
   by_cases h5:4000<(rulesL l 0).length
   ·have e:sPrint l=(noTx,(1,-1)):=by unfold sPrint;rw [if_neg (by simp [h0]),if_pos h5]
    rw [e] at hp
    simp [hp,q2v]
   ·have e:sPrint l=(baL (rulesL l 0),(0,0)):=by unfold sPrint;rw [if_neg (by simp [h0]),if_neg h5]
    rw [e] at hp
    have hq:=q185 h0 h5
    simp [hp,hq,same_s o1 o2]
 ·have hn:(sParse (bl b)).1=[]:=by
   have hsp:=q111 b
   split at hsp
   ·rw [hsp]
   ·cases hs:sScript (bl b) with
    |inl o=>rw [hs] at hsp;rw [hsp]
    |inr l =>
     rw [hs] at hsp
     simp only at hsp
     split at hsp
     ·rw [hsp]
     ·rw [hsp] at hf;exact absurd rfl hf
  simp [hf,hn]
end Go.Proofs.YtognhcibcocbkaaGreatDoor
namespace Go.Proofs.YtognhcibcocbkaaGreatDoor
open Go.ChangeShapes Go.WideShapes Go.ChangeAt Go.RowKit Go.Deep
theorem qk:ownKnob Tryz.prog.godebug=none:=by kernel_rfl
theorem qj:laidOutB Tryz.prog=true:=by kernel_rfl
section
variable {H:Type} {enc:TypeId×Value→H} {P:Program}
theorem q15i (hl:laidOutB P=true) {W W':World} (hb:Bel W W'):∀ {ts:List TypeId} {vs:List Value} {ds:List (DataW H)} {ps:List MemPlace},ts.all (fun t=>P.readableRec t&&decide (t<P.types.size))=true →
  DataW.TrodAll enc P W 0 (fun _=>true) true ts vs ds ps→(∀ x∈ps,x.block<W.heap.size)→DataW.TrodAll enc P W' 0 (fun b=>decide (b<W.heap.size)) true ts vs ds ps
 |[],[],[],_,_,h,_=>h
 |[],[],_::_,_,_,h,_=>h.elim
 |[],_::_,_,_,_,h,_=>h.elim
 |_::_,[],_,_,_,h,_=>h.elim
 |_::_,_::_,[],_,_,h,_=>h.elim
 |t::ts,v::vs,d::ds,ps,hr,h,hlt=>by
  obtain ⟨p,q,h1,h2,rfl⟩:=h
  simp only [List.all_cons,Bool.and_eq_true,decide_eq_true_eq] at hr
  exact ⟨p,q,Below.trod hl hr.1.1 hr.1.2 h1 hb (fun x hx=>hlt x (List.mem_append_left _ hx)),q15i hl hb hr.2 h2 (fun x hx=>hlt x (List.mem_append_right _ hx)),rfl⟩
theorem qbm {fn:Func} {s:ChangeSpec} {W W':World} {args:Array Value} {ds gs:List (DataW H)} {before:List MemPlace} {tb:TypeId} (hl:laidOutB P=true)
  (hr:fn.params.toList.all (fun t=>P.readableRec t&&decide (t<P.types.size))=true) (hrt:fn.resultTypes=#[tb]) (htb:P.underlying tb=some .bool) (hvars:s.vars=[])
  (hfn:s.fn H ds={ results:=[.lit (.bool true)],args:=ds })
  (hW:DataW.Whole enc P fn.params.toList s.vars false W args.toList ds gs before) (hb:Bel W W'):s.post enc P fn false true false false W args (.bool true) W':=by
 have hW':=hW
 have hlt:∀ x∈before,x.block<W.heap.size:=fun x hx=>hW.lt x hx
 obtain ⟨p,q,hA,hV,rfl,hfz,hnd⟩:=hW
 rw [hvars] at hV
 obtain ⟨rfl,rfl⟩:=trodVars_none hV
 have e:s.fn H (ds++[])={ results:=[.lit (.bool true)],args:=ds }:=by rw [List.append_nil];exact hfn
 refine ⟨ds,[],p++[],[],p,[],hW',?_,?_,?_,hb.frame _,fun h=>by cases h⟩
 ·rw [e,hrt]
  exact trodAll_mk1 (shut_bool htb true)
 ·rw [e]
  exact q15i hl hb hr hA (fun x hx=>hlt x (by simpa using hx))
 ·rw [e,hvars]
  rfl
end
def Zw (w:World):ZMap:=fun b o=>w.cell? ⟨b,o,none⟩
def RepL (Z:ZMap):List Value→List C→Prop
 |[],[]=>True
 |u::us,x::xs=>RepC Z u x∧RepL Z us xs
 |_,_=>False
section
variable {H:Type} {enc:TypeId×Value→H} {P:Program}
end
section
variable {H:Type} {enc:TypeId×Value→H} {w:World}
theorem qdy {d:DataW H} {p:List MemPlace} {v:Value} (hv:∃ s,v=.string s) (h:DataW.Trod enc Tryz.prog w 0 (fun _=>true) true 9 v d p) :
  ∃ x:ByteArray,v=.string x∧d=.lit (.string x.data.toList):=by
 obtain ⟨s,rfl⟩:=hv
 obtain ⟨fuel,h⟩:=h
 obtain ⟨a,e,z,_⟩:=DataW.trod_string Tryz.underlying9 h
 injection e with e
 injection e with e
 subst e
 injection z with z _
 exact ⟨s,rfl,z⟩
end
end Go.Proofs.YtognhcibcocbkaaGreatDoor
