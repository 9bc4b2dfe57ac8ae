/- The reference writes rules as specified. -/
import Derived.Test.YtognhcibcocbkaaGreatDoorZ28
import Derived.Test.YtognhcibcocbkaaGreatDoorZ24
import Derived.Test.YtognhcibcocbkaaGreatDoorZ01
import Derived.Test.YtognhcibcocbkaaGreatDoorChecked
import Derived.ProofKit
import Derived.OpenShut
import Derived.JoinedCond
import Derived.Deep.Slices
import Derived.Deep.Fields
import Derived.Lib.SmallJoins
namespace Go.Proofs.YtognhcibcocbkaaGreatDoor
open Go.RowKit
def actsL:List (List C):=[[(C.str (ByteArray.mk (List.toArray [])))],[(C.str (ByteArray.mk (List.toArray [(107:UInt8),(101:UInt8),(101:UInt8),(112:UInt8)])))],[(C.str (ByteArray.mk (List.toArray [(102:UInt8),(105:UInt8),(108:UInt8),(101:UInt8)])))],[(C.str (ByteArray.mk (List.toArray [(100:UInt8),(105:UInt8),(115:UInt8),(99:UInt8),(97:UInt8),(114:UInt8),(100:UInt8)])))],[(C.str (ByteArray.mk (List.toArray [(114:UInt8),(101:UInt8),(100:UInt8),(105:UInt8),(114:UInt8),(101:UInt8),(99:UInt8),(116:UInt8)])))],[(C.str (ByteArray.mk (List.toArray [(114:UInt8),(101:UInt8),(106:UInt8),(101:UInt8),(99:UInt8),(116:UInt8)])))],[(C.str (ByteArray.mk (List.toArray [(102:UInt8),(108:UInt8),(97:UInt8),(103:UInt8)])))],[(C.str (ByteArray.mk (List.toArray [(114:UInt8),(101:UInt8),(112:UInt8),(108:UInt8),(121:UInt8)])))]]
theorem qw4:[[(C.str (ByteArray.mk (List.toArray [])))],[(C.str (ByteArray.mk (List.toArray [(107:UInt8),(101:UInt8),(101:UInt8),(112:UInt8)])))],[(C.str (ByteArray.mk (List.toArray [(102:UInt8),(105:UInt8),(108:UInt8),(101:UInt8)])))],[(C.str (ByteArray.mk (List.toArray [(100:UInt8),(105:UInt8),(115:UInt8),(99:UInt8),(97:UInt8),(114:UInt8),(100:UInt8)])))],[(C.str (ByteArray.mk (List.toArray [(114:UInt8),(101:UInt8),(100:UInt8),(105:UInt8),(114:UInt8),(101:UInt8),(99:UInt8),(116:UInt8)])))],[(C.str (ByteArray.mk (List.toArray [(114:UInt8),(101:UInt8),(106:UInt8),(101:UInt8),(99:UInt8),(116:UInt8)])))],[(C.str (ByteArray.mk (List.toArray [(102:UInt8),(108:UInt8),(97:UInt8),(103:UInt8)])))],[(C.str (ByteArray.mk (List.toArray [(114:UInt8),(101:UInt8),(112:UInt8),(108:UInt8),(121:UInt8)])))]]=actsL:=nrfl rfl
theorem qw3 {a:Int} (h:1≤a∧a≤7):(decide (Int.toNat a<actsL.length)&&((actsL.getD (Int.toNat a) []).length==1))=true∧isP [K1.str] 0 (actsL.getD (Int.toNat a) [])=true∧qss ((actsL.getD (Int.toNat a) []).getD 0 C.ne)=baL (actW a):=by
 have:a=1∨a=2∨a=3∨a=4∨a=5∨a=6∨a=7:=by omega
 rcases this with rfl|rfl|rfl|rfl|rfl|rfl|rfl <;> exact ⟨rfl,rfl,rfl⟩
theorem q174 (act:Int):q15b act=some (txtB act):=by
 refine q15a ?_
 simp only [q15c,↓q3l,txtB]
 cases act==2 <;> cases act==4 <;> cases act==5 <;> cases act==7 <;> rfl
def q4 (k:Int):List UInt8:=if k=4 then [115,116,111,112,59] else []
def q3 (k:Int) (nm tx:ByteArray):List UInt8:=if k=3 then [115,101,116,32]++(bl nm++([32]++(quoL (bl tx)++[59]))) else []
def q6 (act n:Int):List UInt8:=if act=6 then [32]++Lib.decDigits n.toNat else []
def q2 (k act:Int) (tx:ByteArray) (n:Int):List UInt8:=if k=2 then actW act++((if txtB act=true then [32]++quoL (bl tx) else [])++(q6 act n++[59])) else []
section
variable (s:List S59) (dp:Int) (I:ByteArray) (i:Int)
theorem rg27_s {o:List UInt8} (ho:o.length≤1000000000000000):q11h s dp I (baL o) i=some ((s,(dp,(I,(baL (o++[10]),i)))),()):=by
 refine q11j ?_
 simp (disch:=omega) only [q11n,gL,dL,↓q3l,↓q8h,↓reduceIte,EC.decL_encL,EC.isL_encL,foldB,q2q,q2o,gm,List.length_cons,List.length_nil,Bool.false_eq_true]
variable (k tk:Int) (tts:List S57) (tnm:ByteArray) (tp:Int) (ttx:ByteArray) (tn:Int) (th el:List S59) (act:Int) (nm tx:ByteArray) (n:Int)
theorem rg25_s {o:List UInt8} (ho:o.length≤100000000000000):q11a s dp I (baL o) i k tk tts tnm tp ttx tn th el act nm tx n=some ((s,(dp,(I,(baL (o++q4 k++[10]),i)))),()):=by
 refine q11c ?_
 by_cases k4:k=4
 ·have e4:(k==4)=true:=by simpa using k4
  have g:=rg27_s s dp I i (o:=o++[115,116,111,112,59]) (by simp only [List.length_append,List.length_cons,List.length_nil];omega)
  simp (disch:=omega) only [q11g,gL,dL,↓q3l,↓q8h,↓reduceIte,EC.decL_encL,EC.isL_encL,e4,foldB,q2q,q2o,gm,List.length_cons,List.length_nil,Bool.false_eq_true,g,Option.bind_some,q4,if_pos k4]
 ·have e4:(k==4)=false:=by simpa using k4
  have g:=rg27_s s dp I i (o:=o) (by omega)
  simp only [q11g,gL,dL,↓q3l,↓q8h,↓reduceIte,EC.decL_encL,EC.isL_encL,e4,Bool.false_eq_true,g,Option.bind_some,q4,if_neg k4,List.append_nil]
theorem rg23_s (hn:nm.size≤1000000000) (ht:tx.size≤1000000000) {o:List UInt8} (ho:o.length≤10000000000000) :
  q113 s dp I (baL o) i k tk tts tnm tp ttx tn th el act nm tx n=some ((s,(dp,(I,(baL (o++q3 k nm tx++q4 k++[10]),i)))),()):=by
 have hq:=qref_s ht
 have q2:=q16c (bl tx)
 rw [qw5] at q2
 obtain ⟨NM,rfl⟩:∃ l,nm=baL l:=⟨bl nm,(ba_bl nm).symm⟩
 have hN:bl (baL NM)=NM:=q2p NM
 rw [q2q] at hn
 refine q115 ?_
 by_cases k3:k=3
 ·have e3:(k==3)=true:=by simpa using k3
  have g:=rg25_s s dp I i k tk tts tnm tp ttx tn th el act (baL NM) tx n (o:=o++([115,101,116,32]++(NM++([32]++(quoL (bl tx)++[59]))))) (by simp only [List.length_append,List.length_cons,List.length_nil];omega)
  simp (disch:=omega) only [q119,z17,gL,dL,↓q3l,↓q8h,↓reduceIte,EC.decL_encL,EC.isL_encL,e3,hq,foldB,q2q,q2o,gm,List.length_append,List.length_cons,List.length_nil,List.append_assoc,Bool.false_eq_true,Option.bind_some]
  simp only [List.append_assoc] at g
  rw [g]
  simp only [Option.bind_some,q3,if_pos k3,hN,List.append_assoc]
 ·have e3:(k==3)=false:=by simpa using k3
  have g:=rg25_s s dp I i k tk tts tnm tp ttx tn th el act (baL NM) tx n (o:=o) (by omega)
  simp only [q119,z17,gL,dL,↓q3l,↓q8h,↓reduceIte,EC.decL_encL,EC.isL_encL,e3,Bool.false_eq_true,g,Option.bind_some,q3,if_neg k3,List.append_nil]
theorem rg22_s {o:List UInt8} (ho:o.length≤100000000000000):q10w s dp I (baL o) i k tk tts tnm tp ttx tn th el act nm tx n=some ((s,(dp,(I,(baL (o++[59]),(i,()))))),(k,(tk,(tts,(tnm,(tp,(ttx,(tn,(th,(el,(act,(nm,(tx,n))))))))))))):=by
 refine q10y ?_
 simp (disch:=omega) only [q112,gL,dL,↓q3l,↓q8h,↓reduceIte,EC.decL_encL,EC.isL_encL,foldB,q2q,q2o,gm,List.length_cons,List.length_nil,Bool.false_eq_true]
theorem rg20_s (hn:act=6→0≤n∧n≤1000000) {o:List UInt8} (ho:o.length≤10000000000000):q10p s dp I (baL o) i k tk tts tnm tp ttx tn th el act nm tx n=some ((s,(dp,(I,(baL (o++(q6 act n++[59])),(i,()))))),(k,(tk,(tts,(tnm,(tp,(ttx,(tn,(th,(el,(act,(nm,(tx,n))))))))))))):=by
 refine q10r ?_
 by_cases a6:act=6
 ·have e6:(act==6)=true:=by simpa using a6
  have hd:=qw9 (hn a6)
  have hdl:=q52 6 n.toNat (by have:=hn a6;omega)
  have g:=rg22_s s dp I i k tk tts tnm tp ttx tn th el act nm tx n (o:=o++([32]++Lib.decDigits n.toNat)) (by simp only [List.length_append,List.length_cons,List.length_nil];omega)
  simp (disch:=omega) only [q10v,gL,dL,↓q3l,↓q8h,↓reduceIte,EC.decL_encL,EC.isL_encL,e6,hd,foldB,q2q,q2o,gm,List.length_append,List.length_cons,List.length_nil,Bool.false_eq_true,g,Option.bind_some,q6,if_pos a6,List.append_assoc]
 ·have e6:(act==6)=false:=by simpa using a6
  have g:=rg22_s s dp I i k tk tts tnm tp ttx tn th el act nm tx n (o:=o) (by omega)
  simp only [q10v,gL,dL,↓q3l,↓q8h,↓reduceIte,EC.decL_encL,EC.isL_encL,e6,Bool.false_eq_true,g,Option.bind_some,q6,if_neg a6,List.nil_append]
theorem rg16_s (hm:nm.size≤1000000000) (ht:tx.size≤1000000000) (ha:k=2→(1≤act∧act≤7)) (hn:0≤n∧n≤1000000) {o:List UInt8} (ho:o.length≤1000000000000) :
  q10i s dp I (baL o) i k tk tts tnm tp ttx tn th el act nm tx n=some ((s,(dp,(I,(baL (o++q2 k act tx n++q3 k nm tx++q4 k++[10]),i)))),()):=by
 have hq:=qref_s ht
 have ql:=q16c (bl tx)
 rw [qw5] at ql
 have hdl:=q52 6 n.toNat (by omega)
 refine q10k ?_
 by_cases k2:k=2
 ·have e2:(k==2)=true:=by simpa using k2
  have a1:=ha k2
  obtain ⟨m1,m2,m3⟩:=qw3 a1
  have hwl:=qn a1
  have m0:(decide ((0:Int)≤act)&&decide (act<((8:Nat):Int)))=true:=by simp;omega
  have hq6:(q6 act n).length≤8:=by unfold q6;split <;> simp <;> omega
  simp only [q10o,gL,dL,p0,qw4]
  cases htx:txtB act with
  |true =>
   have g1:=rg20_s s dp I i k tk tts tnm tp ttx tn th el act nm tx n (fun _=>hn) (o:=o++(actW act++([32]++quoL (bl tx)))) (by simp only [List.length_append,List.length_cons,List.length_nil];omega)
   have g2:=rg23_s s dp I i k tk tts tnm tp ttx tn th el act nm tx n hm ht (o:=o++(actW act++([32]++quoL (bl tx)))++(q6 act n++[59])) (by simp only [List.length_append,List.length_cons,List.length_nil];omega)
   simp (disch:=omega) only [↓q3l,↓q8h,↓reduceIte,EC.decL_encL,EC.isL_encL,e2,m0,m1,m2,m3,q174,htx,hq,foldB,q2q,q2o,gm,List.length_append,List.length_cons,List.length_nil,Bool.false_eq_true,Option.bind_some,List.append_assoc]
   simp only [List.append_assoc] at g1 g2
   rw [g1]
   simp only [Option.bind_some,g2]
   simp [q2,k2,htx]
  |false =>
   have g1:=rg20_s s dp I i k tk tts tnm tp ttx tn th el act nm tx n (fun _=>hn) (o:=o++actW act) (by simp only [List.length_append];omega)
   have g2:=rg23_s s dp I i k tk tts tnm tp ttx tn th el act nm tx n hm ht (o:=o++actW act++(q6 act n++[59])) (by simp only [List.length_append,List.length_cons,List.length_nil];omega)
   simp (disch:=omega) only [↓q3l,↓q8h,↓reduceIte,EC.decL_encL,EC.isL_encL,e2,m0,m1,m2,m3,q174,htx,foldB,q2q,q2o,gm,List.length_append,Bool.false_eq_true,Option.bind_some]
   rw [g1]
   simp only [Option.bind_some,g2]
   simp [q2,k2,htx]
 ·have e2:(k==2)=false:=by simpa using k2
  have g:=rg23_s s dp I i k tk tts tnm tp ttx tn th el act nm tx n hm ht (o:=o) (by omega)
  simp only [q10o,gL,dL,p0,↓q3l,↓q8h,↓reduceIte,EC.decL_encL,EC.isL_encL,e2,Bool.false_eq_true,g,Option.bind_some,q2,if_neg k2,List.append_nil]
end
theorem qwi (s:List S59) (d:Nat) (hd:d≤1000):∀ m j,j+m=d→q11o s ((d+1:Nat):Int) (baL (ind j)) ((j+1:Nat):Int)=some ((s,(((d+1:Nat):Int),(baL (ind d),(((d+1:Nat):Int),false)))),()):=by
 intro m
 induction m with
 |zero =>
  intro j hj
  have hj:j=d:=by omega
  subst hj
  refine q11q ?_
  simp only [q11u,gL,dL,wI,↓q3l,↓q8h,↓reduceIte,EC.decL_encL,EC.isL_encL,show ¬ (((j+1:Nat):Int)<((j+1:Nat):Int)) by omega,decide_false,Bool.false_eq_true]
 |succ m ihm =>
  intro j hj
  have hil:=q9i j
  have w1:IntKind.i64.wrap (((j+1:Nat):Int)+1)=((j+1+1:Nat):Int):=qvt (n:=2000) (by omega) (by omega)
  have hs:ind j++[32,32]=ind (j+1):=by
   unfold ind;rw [show 2*(j+1)=2*j+2 by omega,←List.replicate_append_replicate];rfl
  have h2:=ihm (j+1) (by omega)
  refine q11q ?_
  simp (disch:=omega) only [q11u,gL,dL,wI,↓q3l,↓q8h,↓reduceIte,EC.decL_encL,EC.isL_encL,show (((j+1:Nat):Int)<((d+1:Nat):Int)) by omega,decide_true,foldB,q2q,q2o,hs,gm,List.length_cons,List.length_nil,Bool.false_eq_true,w1,h2]
section
variable (s:List S59) (i d:Nat) (hi:i<s.length) (hlen:s.length≤1000000000) (I:List UInt8) (hI:I.length≤1000)
 (k tk:Int) (tts:List S57) (tnm:ByteArray) (tp:Int) (ttx:ByteArray) (tn:Int) (th el:List S59) (act:Int) (nm tx:ByteArray) (n:Int)
 (hr:s[i]=⟨k,tk,tts,tnm,tp,ttx,tn,th,el,act,nm,tx,n⟩) (hm:nm.size≤1000000) (ht:tx.size≤1000000) (ha:k=2→(1≤act∧act≤7)) (hn:0≤n∧n≤1000000) {acc:List UInt8} (hacc:acc.length≤100000000000)
 {z:((List S59)×Int×ByteArray×ByteArray×Int×Bool)×Unit}
include hlen hI hm ht ha hn hacc
theorem st_pl (hr:s[i]=⟨k,tk,tts,tnm,tp,ttx,tn,th,el,act,nm,tx,n⟩) (hk:¬ k=1)
  (hz:q11v s ((d+1:Nat):Int) (baL I) (baL (acc++I++q2 k act tx n++q3 k nm tx++q4 k++[10])) ((i+1:Nat):Int)=some z) :
  q11v s ((d+1:Nat):Int) (baL I) (baL acc) (i:Int)=some z:=by
 have w1:IntKind.i64.wrap ((i:Int)+1)=((i+1:Nat):Int):=qvt hi (by omega)
 have e1:(k==1)=false:=by simpa using hk
 have g:=rg16_s s ((d+1:Nat):Int) (baL I) (i:Int) k tk tts tnm tp ttx tn th el act nm tx n (by omega) (by omega) ha hn (o:=acc++I) (by simp only [List.length_append];omega)
 refine q11x ?_
 simp (disch:=omega) only [q121,z18,z19,z1a,z1b,gL,dL,lN,eC,wI,p0,uL,↓q3l,↓q8h,↓reduceIte,EC.decL_encL,EC.isL_encL,EC.encL_length,q9u,q27,q28,q2c,q2d,q2e,q2f,q2g,q2h,q2i,q2j,q29,q2a,q2b,show ((i:Int)<(s.length:Int)) by omega,show (0:Int)≤(i:Int) by omega,decide_true,Int.toNat_natCast,hi,Bool.and_self,q8k hi,hr,e1,q2q,q2o,gm,Bool.false_eq_true,g,Option.bind_some,w1,hz]
variable (hk:k=1) (T A E:List UInt8) (hT:T.length≤10000000000) (hA:A.length≤100000000000) (hE:E.length≤100000000000) (w2:IntKind.i64.wrap (((d+1:Nat):Int)+1)=((d+1+1:Nat):Int))
 (hTT:q155 tk tts tnm tp ttx tn=some (baL T)) (hAA:q122 th ((d+1+1:Nat):Int)=some (baL A))
include hT hA w2 hTT hAA
omit ha in
set_option maxHeartbeats 2000000 in
theorem st_if0 (hr:s[i]=⟨1,tk,tts,tnm,tp,ttx,tn,th,[],act,nm,tx,n⟩)
  (hz:q11v s ((d+1:Nat):Int) (baL I) (baL (acc++(I++([105,102,32]++(T++([32,123,10]++(A++(I++([125]++[10]))))))))) ((i+1:Nat):Int)=some z) :
  q11v s ((d+1:Nat):Int) (baL I) (baL acc) (i:Int)=some z:=by
 have w1:IntKind.i64.wrap ((i:Int)+1)=((i+1:Nat):Int):=qvt hi (by omega)
 have g:=rg16_s s ((d+1:Nat):Int) (baL I) (i:Int) 1 tk tts tnm tp ttx tn th [] act nm tx n (by omega) (by omega) (fun h=>by omega) hn (o:=acc++(I++([105,102,32]++(T++([32,123,10]++(A++(I++[125]))))))) (by simp only [List.length_append,List.length_cons,List.length_nil];omega)
 have ce:decide ((((0:Nat):Nat):Int)>0)=false:=rfl
 simp only [q2,q3,q4,show ¬ ((1:Int)=2) by omega,show ¬ ((1:Int)=3) by omega,show ¬ ((1:Int)=4) by omega,if_false,List.append_nil,List.append_assoc] at g
 refine q11x ?_
 simp (maxSteps:=2000000) (disch:=omega) only [q121,z18,z19,z1a,z1b,gL,dL,lN,eC,wI,p0,uL,↓q3l,↓q8h,↓reduceIte,EC.decL_encL,EC.isL_encL,EC.encL_length,q9u,q27,q28,q2c,q2d,q2e,q2f,q2g,q2h,q2i,q2j,q29,q2a,q2b,show ((i:Int)<(s.length:Int)) by omega,show (0:Int)≤(i:Int) by omega,decide_true,Int.toNat_natCast,hi,Bool.and_self,q8k hi,hr,beq_self_eq_true,hTT,hAA,w2,ce,foldB,q2q,q2o,gm,List.length_append,List.length_cons,List.length_nil,Bool.false_eq_true,Option.bind_some,List.append_assoc,g,w1,hz]
include hE
omit ha in
set_option maxHeartbeats 8000000 in
theorem st_if1 (e0:S59) (hr:s[i]=⟨1,tk,tts,tnm,tp,ttx,tn,th,e0::el,act,nm,tx,n⟩) (hEE:q122 (e0::el) ((d+1+1:Nat):Int)=some (baL E))
  (hz:q11v s ((d+1:Nat):Int) (baL I) (baL (acc++(I++([105,102,32]++(T++([32,123,10]++(A++(I++([125]++([32,101,108,115,101,32,123,10]++(E++(I++([125]++[10]))))))))))))) ((i+1:Nat):Int)=some z) :
  q11v s ((d+1:Nat):Int) (baL I) (baL acc) (i:Int)=some z:=by
 have w1:IntKind.i64.wrap ((i:Int)+1)=((i+1:Nat):Int):=qvt hi (by omega)
 have g:=rg16_s s ((d+1:Nat):Int) (baL I) (i:Int) 1 tk tts tnm tp ttx tn th (e0::el) act nm tx n (by omega) (by omega) (fun h=>by omega) hn (o:=acc++(I++([105,102,32]++(T++([32,123,10]++(A++(I++([125]++([32,101,108,115,101,32,123,10]++(E++(I++[125]))))))))))) (by simp only [List.length_append,List.length_cons,List.length_nil];omega)
 have ce:decide ((((el.length+1:Nat):Nat):Int)>0)=true:=by simp
 simp only [q2,q3,q4,show ¬ ((1:Int)=2) by omega,show ¬ ((1:Int)=3) by omega,show ¬ ((1:Int)=4) by omega,if_false,List.append_nil,List.append_assoc] at g
 refine q11x ?_
 simp (maxSteps:=2000000) (disch:=omega) only [q121,z18,z19,z1a,z1b,gL,dL,lN,eC,wI,p0,uL,↓q3l,↓q8h,↓reduceIte,EC.decL_encL,EC.isL_encL,EC.encL_length,q9u,q27,q28,q2c,q2d,q2e,q2f,q2g,q2h,q2i,q2j,q29,q2a,q2b,show ((i:Int)<(s.length:Int)) by omega,show (0:Int)≤(i:Int) by omega,decide_true,Int.toNat_natCast,hi,Bool.and_self,q8k hi,hr,beq_self_eq_true,hTT,hAA,hEE,w2,ce,foldB,q2q,q2o,gm,List.length_append,List.length_cons,List.length_nil,Bool.false_eq_true,Option.bind_some,List.append_assoc,g,w1,hz]
end
end Go.Proofs.YtognhcibcocbkaaGreatDoor
namespace Go.Proofs.YtognhcibcocbkaaGreatDoor
open Go.RowKit
theorem st_s (s:List S59) (i d:Nat) (hi:i<s.length) (hlen:s.length≤1000000000) {r:S59} (hr:s[i]=r) (hv:vR r (d+1)) (hz:tsz r≤10000000)
  (iht:q122 r.Then ((d+1+1:Nat):Int)=some (baL (rulesL r.Then (d+1)))) (ihe:q122 r.Else ((d+1+1:Nat):Int)=some (baL (rulesL r.Else (d+1))))
  {acc:List UInt8} (hacc:acc.length≤100000000000) {z:((List S59)×Int×ByteArray×ByteArray×Int×Bool)×Unit}
  (hn:q11v s ((d+1:Nat):Int) (baL (ind d)) (baL (acc++ruleL r d)) ((i+1:Nat):Int)=some z) :
  q11v s ((d+1:Nat):Int) (baL (ind d)) (baL acc) (i:Int)=some z:=by
 obtain ⟨F,v1,v2⟩:=qvd hv
 have hd8:=F.d8
 have hrH:rHead r=0:=by
  cases r
  exact hv.2.1
 have S:=qg3 hrH
 have hlt:=qii (7 - d) (d+1) (by omega) r.Then v1
 have hle:=qii (7 - d) (d+1) (by omega) r.Else v2
 have htz:=tsz_eq r
 have hil:=q9i d
 obtain ⟨k,tk,tts,tnm,tp,ttx,tn,th,el,act,nm,tx,n⟩:=r
 have hk:=F.k
 have hk1:=F.k1
 have hac:=F.ac
 have hna:=F.na
 simp only [tOf] at *
 clear v1 v2 F hrH hv
 have hnn:0≤n∧n≤1000000:=by
  by_cases h2:k=2
  ·have:=(hac h2).2.2.2;omega
  ·have:=(hna h2).2;omega
 have hcase:k=1∨k=2∨k=3∨k=4:=by omega
 by_cases h1:k=1
 ·subst h1
  have ht0:=(hk1 rfl).2.2.2.2
  have ht:=refT_s 8 1 rfl ⟨tk,tts,tnm,tp,ttx,tn⟩ ht0 (by omega)
  have htl:=quf ht0
  have ht:q155 tk tts tnm tp ttx tn=some (baL (testL ⟨tk,tts,tnm,tp,ttx,tn⟩)):=ht
  have w2:IntKind.i64.wrap (((d+1:Nat):Int)+1)=((d+1+1:Nat):Int):=qvt (n:=1000) (by omega) (by omega)
  cases el with
  |nil =>
   refine st_if0 s i d hi hlen (ind d) (by omega) tk tts tnm tp ttx tn th act nm tx n (by omega) (by omega) hnn hacc (T:=testL ⟨tk,tts,tnm,tp,ttx,tn⟩) (A:=rulesL th (d+1)) (by omega) (by omega) w2 ht iht hr ?_
   rw [←hn]
   simp [ruleL,wIf]
  |cons e0 el =>
   refine st_if1 s i d hi hlen (ind d) (by omega) tk tts tnm tp ttx tn th el act nm tx n (by omega) (by omega) hnn hacc (T:=testL ⟨tk,tts,tnm,tp,ttx,tn⟩) (A:=rulesL th (d+1)) (E:=rulesL (e0::el) (d+1)) (by omega) (by omega) (by omega) w2 ht iht e0 hr ihe ?_
   rw [←hn]
   simp [ruleL,wIf,wElse]
 ·refine st_pl s i d hi hlen (ind d) (by omega) k tk tts tnm tp ttx tn th el act nm tx n (by omega) (by omega) (fun h=>(hac h).1) hnn hacc hr h1 ?_
  rw [←hn]
  rcases hcase with rfl|rfl|rfl|rfl
  ·exact absurd rfl h1
  ·cases htx:txtB act with
   |true =>
    have n6:¬ act=6:=fun e=>by rw [e] at htx;cases htx
    simp [ruleL,q2,q3,q4,q6,htx,n6]
   |false =>
    by_cases h6:act=6
    ·subst h6
     simp [ruleL,q2,q3,q4,q6,htx]
    ·simp [ruleL,q2,q3,q4,q6,htx,h6]
  ·simp [ruleL,q2,q3,q4,wSet]
  ·simp [ruleL,q2,q3,q4,wStop]
theorem q16f (s:List S59) (d:Nat) (hlen:s.length≤1000000000) (hz:tszL s≤10000000)
  (hstep:∀ (i:Nat) (hi:i<s.length) (acc:List UInt8) (z:((List S59)×Int×ByteArray×ByteArray×Int×Bool)×Unit),acc.length≤100000000000→q11v s ((d+1:Nat):Int) (baL (ind d)) (baL (acc++ruleL s[i] d)) ((i+1:Nat):Int)=some z→q11v s ((d+1:Nat):Int) (baL (ind d)) (baL acc) (i:Int)=some z)
  (hl:∀ r∈s,(ruleL r d).length≤2000*tsz r) :
  ∀ m i (acc:List UInt8),i+m=s.length→acc.length+2000*tszL (s.drop i)≤2000*tszL s→q11v s ((d+1:Nat):Int) (baL (ind d)) (baL acc) (i:Int)=some ((s,(((d+1:Nat):Int),(baL (ind d),(baL (acc++rulesL (s.drop i) d),((s.length:Int),false))))),()):=by
 intro m
 induction m with
 |zero =>
  intro i acc hi _
  have hi:i=s.length:=by omega
  subst hi
  refine q11x ?_
  simp only [q121,z18,z19,z1a,z1b,gL,dL,lN,eC,wI,p0,uL,↓q3l,↓q8h,↓reduceIte,EC.decL_encL,EC.isL_encL,EC.encL_length,show ¬ ((s.length:Int)<(s.length:Int)) by omega,decide_false,Bool.false_eq_true,List.drop_length,rulesL,List.append_nil]
 |succ m ihm =>
  intro i acc hi ha
  have hlt:i<s.length:=by omega
  have hdz:tszL (s.drop i)=tsz s[i]+tszL (s.drop (i+1)):=by rw [q5h hlt];rfl
  have h1l:=hl _ (List.getElem_mem hlt)
  have h2:=ihm (i+1) (acc++ruleL s[i] d) (by omega) (by rw [List.length_append];omega)
  refine hstep i hlt acc _ (by omega) (h2.trans ?_)
  rw [q5h hlt,rulesL,List.append_assoc]
theorem q16d (d:Nat) (hd:d≤8) (s:List S59) (hz:tszL s≤10000000) (hl:∀ r∈s,(ruleL r d).length≤2000*tsz r)
  (hstep:∀ (i:Nat) (hi:i<s.length) (acc:List UInt8) (z:((List S59)×Int×ByteArray×ByteArray×Int×Bool)×Unit),acc.length≤100000000000→q11v s ((d+1:Nat):Int) (baL (ind d)) (baL (acc++ruleL s[i] d)) ((i+1:Nat):Int)=some z→q11v s ((d+1:Nat):Int) (baL (ind d)) (baL acc) (i:Int)=some z) :
  q122 s ((d+1:Nat):Int)=some (baL (rulesL s d)):=by
 have hlen:=qb8 s
 have h3:=qwi s d (by omega) d 0 (by omega)
 have h3:q11o s ((d+1:Nat):Int) (baL []) 1=_:=h3
 have h8:=q16f s d (by omega) hz hstep hl s.length 0 [] (by omega) (by simp)
 have h8:q11v s ((d+1:Nat):Int) (baL (ind d)) (baL []) 0=_:=h8
 refine q10h ?_
 simp only [q123,gL,dL,↓q8h,↓reduceIte,EC.decL_encL,EC.isL_encL,foldB,h3,h8,Option.bind_some,List.nil_append,List.drop_zero]
theorem refS_s:∀ (e d:Nat),d+e=8→∀ l:List S59,vL l (d+1)→tszL l≤10000000→q122 l ((d+1:Nat):Int)=some (baL (rulesL l d))
 |0,d,hd,l,hv,hz=>q16d d (by omega) l hz (fun r hr=>by have:=(qvd (vL_mem hv hr)).1.d8;omega) fun i hi=>by have:=(qvd (vL_mem hv (List.getElem_mem hi))).1.d8;omega
 |e+1,d,hd,l,hv,hz=>q16d d (by omega) l hz (fun r hr=>qgy (by omega) (vL_mem hv hr)) fun i hi acc z ha hn=>by
  have hr:=List.getElem_mem hi
  have h1:=vL_mem hv hr
  have h2:=qv2 hr
  have h3:=tsz_eq l[i]
  have h4:=qb8 l
  obtain ⟨_,v1,v2⟩:=qvd h1
  exact st_s l i d hi (by omega) rfl h1 (by omega) (refS_s e (d+1) (by omega) l[i].Then v1 (by omega)) (refS_s e (d+1) (by omega) l[i].Else v2 (by omega)) ha hn
theorem law41 (l:List S59) (hl:l.length≤big) (ho:okL l) (hz:tszL l≤10000000):qwu l=some true:=by
 have hp:=qfk l hl ho (fun _=>by omega)
 have hv:=qvf l hl ho
 have hf:=q16h l hl ho
 refine qwt ?_
 simp only [qwv,gL,dL,↓q3l,↓q8h,↓reduceIte,EC.decL_encL,EC.isL_encL,hp,hv,hf,Option.bind_some]
 unfold sPrint
 by_cases h0:(scriptF l).1=0
 ·have ht:=refS_s 8 0 rfl l (qrp h0) hz
  have ht:q122 l 1=some (baL (rulesL l 0)):=ht
  by_cases h4:4000<(rulesL l 0).length
  ·have h4':((rulesL l 0).length:Int)>4000:=by omega
   simp [h0,h4,ht,at_s,q2q]
   omega
  ·simp [h0,h4,ht,q2q]
   exact fun h=>absurd (by omega) h4
 ·simp [h0]
end Go.Proofs.YtognhcibcocbkaaGreatDoor
namespace Go.Proofs.YtognhcibcocbkaaGreatDoor
open Go.ChangeShapes Go.WideShapes Go.ChangeAt Go.RowKit Go.Deep
theorem qk:ownKnob Tryz.prog.godebug=none:=by kernel_rfl
theorem qj:laidOutB Tryz.prog=true:=by kernel_rfl
section
variable {H:Type} {enc:TypeId×Value→H} {P:Program}
theorem qv0 (hl:laidOutB P=true) {W W':World} (hb:Bel W W'):∀ {ts:List TypeId} {vs:List Value} {ds:List (DataW H)} {ps:List MemPlace},ts.all (fun t=>P.readableRec t&&decide (t<P.types.size))=true →
  DataW.TrodAll enc P W 0 (fun _=>true) true ts vs ds ps→(∀ x∈ps,x.block<W.heap.size)→DataW.TrodAll enc P W' 0 (fun b=>decide (b<W.heap.size)) true ts vs ds ps
 |[],[],[],_,_,h,_=>h
 |[],[],_::_,_,_,h,_=>h.elim
 |[],_::_,_,_,_,h,_=>h.elim
 |_::_,[],_,_,_,h,_=>h.elim
 |_::_,_::_,[],_,_,h,_=>h.elim
 |t::ts,v::vs,d::ds,ps,hr,h,hlt=>by
  obtain ⟨p,q,h1,h2,rfl⟩:=h
  simp only [List.all_cons,Bool.and_eq_true,decide_eq_true_eq] at hr
  exact ⟨p,q,Below.trod hl hr.1.1 hr.1.2 h1 hb (fun x hx=>hlt x (List.mem_append_left _ hx)),qv0 hl hb hr.2 h2 (fun x hx=>hlt x (List.mem_append_right _ hx)),rfl⟩
theorem qaw {fn:Func} {s:ChangeSpec} {W W':World} {args:Array Value} {ds gs:List (DataW H)} {before:List MemPlace} {tb:TypeId} (hl:laidOutB P=true)
  (hr:fn.params.toList.all (fun t=>P.readableRec t&&decide (t<P.types.size))=true) (hrt:fn.resultTypes=#[tb]) (htb:P.underlying tb=some .bool) (hvars:s.vars=[])
  (hfn:s.fn H ds={ results:=[.lit (.bool true)],args:=ds })
  (hW:DataW.Whole enc P fn.params.toList s.vars false W args.toList ds gs before) (hb:Bel W W'):s.post enc P fn false true false false W args (.bool true) W':=by
 have hW':=hW
 have hlt:∀ x∈before,x.block<W.heap.size:=fun x hx=>hW.lt x hx
 obtain ⟨p,q,hA,hV,rfl,hfz,hnd⟩:=hW
 rw [hvars] at hV
 obtain ⟨rfl,rfl⟩:=trodVars_none hV
 have e:s.fn H (ds++[])={ results:=[.lit (.bool true)],args:=ds }:=by rw [List.append_nil];exact hfn
 refine ⟨ds,[],p++[],[],p,[],hW',?_,?_,?_,hb.frame _,fun h=>by cases h⟩
 ·rw [e,hrt]
  exact trodAll_mk1 (shut_bool htb true)
 ·rw [e]
  exact qv0 hl hb hr hA (fun x hx=>hlt x (by simpa using hx))
 ·rw [e,hvars]
  rfl
end
end Go.Proofs.YtognhcibcocbkaaGreatDoor
