/- The program prints tests and rules as specified. -/
import Derived.Test.YtognhcibcocbkaaGreatDoorZ23
import Derived.Test.YtognhcibcocbkaaGreatDoorZ26
namespace Go.Proofs.YtognhcibcocbkaaGreatDoor
open Go.RowKit
theorem foldB (l:List UInt8):ByteArray.mk (List.toArray l)=baL l:=rfl
theorem gm {n:Nat} (h:n≤9223372036854775807):decide (((n:Nat):Int)>IntKind.max .i64)=false:=decide_eq_false (by
 show ¬ (_>(9223372036854775807:Int))
 omega)
theorem quo_s {s:ByteArray} (h:s.size≤4000000000):quoP s=some (baL (quoL (bl s))):=by
 unfold quoP
 rw [if_pos (by omega)]
 rfl
theorem ito_s {n:Int} (h:0≤n∧n≤1000000):itoaP n=some (baL (Lib.decDigits n.toNat)):=by
 unfold itoaP
 rw [if_pos (by omega)]
 have:Lib.itoa n=Lib.decDigits n.toNat:=by unfold Lib.itoa;rw [if_neg (by omega)]
 rw [this];rfl
theorem qgn (d:Nat):(List.replicate d ([32,32]:List UInt8)).flatten=ind d:=by
 induction d with
 |zero=>rfl
 |succ d ih=>rw [List.replicate_succ,List.flatten_cons,ih];unfold ind;rw [show 2*(d+1)=2*d+1+1 by omega,List.replicate_succ,List.replicate_succ];rfl
theorem rep_s {d:Nat} (h:d≤1000):repP (baL [32,32]) (d:Int)=some (baL (ind d)):=by
 unfold repP
 rw [if_pos ⟨by omega,by omega,by rw [q2q];simp⟩,q2p,Int.toNat_natCast,qgn]
 rfl
theorem quj:∀ l:List S57,testsC l=Lib.joinTail [44,32] (l.map testL)
 |[]=>rfl
 |t::l=>by
  have:=quj l
  simp only [testsC,Lib.joinTail,List.map_cons,List.flatten_cons,List.map_map] at this ⊢
  rw [this]
  simp
theorem quk (l:List S57):Lib.join (l.map testL) [44,32]=testsL l:=by
 cases l with
 |nil=>rfl
 |cons t l=>rw [List.map_cons,Lib.join_cons,←quj];rfl
theorem join_s {l:List S57} (h:(testsL l).length≤100000000000000) (hl:l.length≤100000000000000):joinP (l.map fun t=>baL (testL t)) (baL [44,32])=some (baL (testsL l)):=by
 have e:((l.map fun t=>baL (testL t)).map fun x=>x.data.toList)=l.map testL:=by
  rw [List.map_map]
  apply List.map_congr_left
  intro t _
  exact q2p _
 unfold joinP
 rw [e,q2p,quk,if_pos ⟨by omega,by rw [List.length_map];omega⟩]
 rfl
theorem qc3 (k:Int) (ts:List S57) (nm:ByteArray) (p:Int) (tx:ByteArray) (n:Int) (hp:1≤p∧p≤3) (ht:tx.size≤200):qin k ts nm p tx n=some (baL (matL p tx)):=by
 have hq:=quo_s (s:=tx) (by omega)
 have q2:=q16c (bl tx)
 rw [qw5] at q2
 have:p=1∨p=2∨p=3:=by omega
 refine qim ?_
 rcases this with rfl|rfl|rfl
 ·have w:IntKind.i64.wrap ((1:Int) - 1)=0:=qvs (by omega)
  have hw:[baL wIs,baL wContains,baL wLike].getD (Int.toNat 0) ByteArray.empty=baL wIs:=rfl
  have l1:wIs.length=2:=rfl
  simp (disch:=omega) only [qio,p0,q3l,q8h,qc4,Option.bind_some,w,hw,hq,foldB,q2q,q2o,List.length_append,List.length_cons,List.length_nil,gm,Bool.false_eq_true,if_false]
  rw [if_pos (by decide)]
  simp [matL,matchW,List.append_assoc]
 ·have w:IntKind.i64.wrap ((2:Int) - 1)=1:=qvs (by omega)
  have hw:[baL wIs,baL wContains,baL wLike].getD (Int.toNat 1) ByteArray.empty=baL wContains:=rfl
  have l1:wContains.length=8:=rfl
  simp (disch:=omega) only [qio,p0,q3l,q8h,qc4,Option.bind_some,w,hw,hq,foldB,q2q,q2o,List.length_append,List.length_cons,List.length_nil,gm,Bool.false_eq_true,if_false]
  rw [if_pos (by decide)]
  simp [matL,matchW,List.append_assoc]
 ·have w:IntKind.i64.wrap ((3:Int) - 1)=2:=qvs (by omega)
  have hw:[baL wIs,baL wContains,baL wLike].getD (Int.toNat 2) ByteArray.empty=baL wLike:=rfl
  have l1:wLike.length=4:=rfl
  simp (disch:=omega) only [qio,p0,q3l,q8h,qc4,Option.bind_some,w,hw,hq,foldB,q2q,q2o,List.length_append,List.length_cons,List.length_nil,gm,Bool.false_eq_true,if_false]
  rw [if_pos (by decide)]
  simp [matL,matchW,List.append_assoc]
noncomputable def ofT (t:S57):Option ByteArray:=qk9 t.Kind t.Tests t.Name t.Pattern t.Text t.N
theorem qdi (ts:List S57) (hl:ts.length≤1000000000) (ih:∀ t∈ts,ofT t=some (baL (testL t))) :
  ∀ m i,i+m=ts.length→qd6 i ts (ts.length:Int) (i:Int) ((ts.take i).map fun t=>baL (testL t))=some ((ts.length,(ts,((ts.length:Int),((ts.length:Int),false)))),ts.map fun t=>baL (testL t)):=by
 intro m
 induction m with
 |zero =>
  intro i hi
  have hi:i=ts.length:=by omega
  subst hi
  refine qd8 ?_
  simp only [qdc,z1c,gL,dL,eC,wI,p0,aL,dQ,dM,uL,q3l,q8h,EC.decL_encL,EC.isL_encL,EC.encL_length,qwf,q21,q22,q23,q24,q25,q26,all_9,apd_9,show ¬ ((ts.length:Int)<(ts.length:Int)) by omega,decide_false,Bool.false_eq_true,if_false,if_true,List.take_length]
 |succ m ihm =>
  intro i hi
  have hlt:i<ts.length:=by omega
  have h1:qk9 ts[i].Kind ts[i].Tests ts[i].Name ts[i].Pattern ts[i].Text ts[i].N=some (baL (testL ts[i])):=ih _ (List.getElem_mem hlt)
  have w1:IntKind.i64.wrap ((i:Int)+1)=((i+1:Nat):Int):=qvt hlt (by omega)
  have e1:decide ((i+1+(i+1) / 4+192)*16≤281474976710656)=true:=by simp;omega
  have e2:decide (i+1≤9223372036854775807)=true:=by simp;omega
  have et:((ts.take i).map fun t=>baL (testL t))++[baL (testL ts[i])]=(ts.take (i+1)).map fun t=>baL (testL t):=by
   rw [List.take_succ_eq_append_getElem hlt,List.map_append];rfl
  have h2:=ihm (i+1) (by omega)
  refine qd8 ?_
  simp only [qdc,z1c,gL,dL,eC,wI,p0,aL,dQ,dM,uL,q3l,q8h,EC.decL_encL,EC.isL_encL,EC.encL_length,qwf,q21,q22,q23,q24,q25,q26,all_9,apd_9,show ((i:Int)<(ts.length:Int)) by omega,show (0:Int)≤(i:Int) by omega,decide_true,Int.toNat_natCast,hlt,Bool.and_self,if_true,q8k hlt,h1,Option.bind_some,w1,List.length_cons,List.length_nil,Nat.zero_add,e1,e2,List.all_cons,List.all_nil,beq_self_eq_true,et,h2]
theorem ofl_s (k:Int) (ts:List S57) (nm:ByteArray) (p:Int) (tx:ByteArray) (n:Int) (hl:ts.length≤1000000000) (hz:(testsL ts).length≤10000000000000) (ih:∀ t∈ts,ofT t=some (baL (testL t))) :
  qdd k ts nm p tx n=some (baL (40::(testsL ts++[41]))):=by
 have h:=qdi ts hl ih ts.length 0 (by omega)
 have h:qd6 0 ts (ts.length:Int) 0 []=_:=h
 have d0:q5m.decL []=[]:=rfl
 have hj:=join_s (l:=ts) (by omega) (by omega)
 refine qd5 ?_
 simp (disch:=omega) only [qde,gL,dL,lN,q3l,q8h,EC.decL_encL,EC.isL_encL,EC.encL_length,if_true,d0,h,Option.bind_some,foldB,hj,q2q,q2o,List.length_append,List.length_cons,List.length_nil,gm,Bool.false_eq_true,if_false]
 simp
theorem ofT_s:∀ (e d:Nat),d+e=9→∀ t:S57,tfT t d=0→tzT t≤1000000000→ofT t=some (baL (testL t))
 |0,d,hd,t,h,_=>by have:=(qtb h).d8;omega
 |e+1,d,hd,⟨k,ts,nm,p,tx,n⟩,h,hz=>by
  have F:=qtb h
  have S:=qtc h
  have tl:=que (e+1) d hd _ h
  rw [tzT_eq] at hz tl
  have hz':tzL ts≤1000000000:=by simp only at hz;omega
  have ihs:∀ u∈ts,ofT u=some (baL (testL u)):=fun u hu=>ofT_s e (d+1) (by omega) u (F.sub u hu) (by have:=tz_mem hu;omega)
  have hlen:(testsL ts).length≤1000*tzL ts:=qul fun u hu=>que e (d+1) (by omega) u (F.sub u hu)
  have hk:=F.k
  have hp:=F.p3
  have hn:=F.nr
  have hk2:=F.k2
  simp only at hk hp hn hk2 S
  have q1:=q16c (bl nm)
  rw [qw5] at q1
  have hq1:=quo_s (s:=nm) (by omega)
  have hi:=ito_s hn
  have hdl:=q52 6 n.toNat (by omega)
  have hm:k=5∨k=6∨k=7→qin k ts nm p tx n=some (baL (matL p tx)):=fun h=>qc3 k ts nm p tx n (hp h) S.2.1
  have hml:k=5∨k=6∨k=7→(matL p tx).length≤411:=fun h=>by
   have:=qc1 (hp h)
   have q2:=q16c (bl tx)
   rw [qw5] at q2
   simp only [matL,List.length_append,List.length_cons]
   omega
  have hol:=ofl_s k ts nm p tx n (by omega) (by omega) ihs
  show qk9 k ts nm p tx n=some (baL (testL ⟨k,ts,nm,p,tx,n⟩))
  refine qk8 ?_
  have hcase:k=1∨k=2∨k=3∨k=4∨k=5∨k=6∨k=7∨k=8∨k=9:=by omega
  rcases hcase with rfl|rfl|rfl|rfl|rfl|rfl|rfl|rfl|rfl
  ·simp (disch:=omega) only [qka,z1d,gL,dL,eC,uL,↓q3l,↓reduceIte,foldB,show ((1:Int)==2)=false from rfl,show ((1:Int)==3)=false from rfl,show ((1:Int)==4)=false from rfl,show ((1:Int)==5)=false from rfl,show ((1:Int)==6)=false from rfl,show ((1:Int)==7)=false from rfl,show ((1:Int)==8)=false from rfl,show ((1:Int)==9)=false from rfl,Bool.false_eq_true]
   rfl
  ·obtain ⟨u,hu⟩:∃ u,ts=[u]:=by
    exact List.length_eq_one_iff.1 (hk2 rfl)
   subst hu
   have h1:qk9 u.Kind u.Tests u.Name u.Pattern u.Text u.N=some (baL (testL u)):=ihs u (by simp)
   have hl2:(testL u).length≤1000*tzL [u]:=by simpa [testsL,testsC] using hlen
   have g0:([u]:List S57).getD (Int.toNat 0) (q5k.dec [])=u:=rfl
   have g1:decide (Int.toNat 0<[u].length)=true:=rfl
   simp (disch:=omega) only [qka,z1d,gL,dL,eC,uL,↓q3l,↓q8h,↓reduceIte,EC.decL_encL,EC.isL_encL,EC.encL_length,qwf,q21,q22,q23,q24,q25,q26,Option.bind_some,foldB,beq_self_eq_true,g0,Bool.and_self,h1,q2q,q2o,List.length_cons,List.length_nil,gm,Bool.false_eq_true]
   simp [testL,testsL,testsC,testW,wNot]
  ·simp (disch:=omega) only [qka,z1d,gL,dL,eC,uL,↓q3l,↓q8h,↓reduceIte,EC.decL_encL,EC.isL_encL,Option.bind_some,foldB,show ((3:Int)==2)=false from rfl,beq_self_eq_true,hol,q2q,q2o,List.length_append,List.length_cons,List.length_nil,gm,Bool.false_eq_true]
   simp [testL,testW,wAll]
  ·simp (disch:=omega) only [qka,z1d,gL,dL,eC,uL,↓q3l,↓q8h,↓reduceIte,EC.decL_encL,EC.isL_encL,Option.bind_some,foldB,show ((4:Int)==2)=false from rfl,show ((4:Int)==3)=false from rfl,beq_self_eq_true,hol,q2q,q2o,List.length_append,List.length_cons,List.length_nil,gm,Bool.false_eq_true]
   simp [testL,testW,wAny]
  ·have h5:=hm (by omega)
   have l5:=hml (by omega)
   simp (disch:=omega) only [qka,z1d,gL,dL,eC,uL,↓q3l,↓q8h,↓reduceIte,EC.decL_encL,EC.isL_encL,Option.bind_some,foldB,show ((5:Int)==2)=false from rfl,show ((5:Int)==3)=false from rfl,show ((5:Int)==4)=false from rfl,beq_self_eq_true,hq1,h5,q2q,q2o,List.length_append,List.length_cons,List.length_nil,gm,Bool.false_eq_true]
   simp [testL,testW,wHeader]
  ·have h5:=hm (by omega)
   have l5:=hml (by omega)
   simp (disch:=omega) only [qka,z1d,gL,dL,eC,uL,↓q3l,↓q8h,↓reduceIte,EC.decL_encL,EC.isL_encL,Option.bind_some,foldB,show ((6:Int)==2)=false from rfl,show ((6:Int)==3)=false from rfl,show ((6:Int)==4)=false from rfl,show ((6:Int)==5)=false from rfl,beq_self_eq_true,h5,q2q,q2o,List.length_cons,List.length_nil,gm,Bool.false_eq_true]
   simp [testL,testW,wFrom]
  ·have h5:=hm (by omega)
   have l5:=hml (by omega)
   simp (disch:=omega) only [qka,z1d,gL,dL,eC,uL,↓q3l,↓q8h,↓reduceIte,EC.decL_encL,EC.isL_encL,Option.bind_some,foldB,show ((7:Int)==2)=false from rfl,show ((7:Int)==3)=false from rfl,show ((7:Int)==4)=false from rfl,show ((7:Int)==5)=false from rfl,show ((7:Int)==6)=false from rfl,beq_self_eq_true,h5,q2q,q2o,List.length_cons,List.length_nil,gm,Bool.false_eq_true]
   simp [testL,testW,wTo]
  ·simp (disch:=omega) only [qka,z1d,gL,dL,eC,uL,↓q3l,↓reduceIte,Option.bind_some,foldB,show ((8:Int)==2)=false from rfl,show ((8:Int)==3)=false from rfl,show ((8:Int)==4)=false from rfl,show ((8:Int)==5)=false from rfl,show ((8:Int)==6)=false from rfl,show ((8:Int)==7)=false from rfl,beq_self_eq_true,hi,q2q,q2o,List.length_cons,List.length_nil,gm,Bool.false_eq_true]
   simp [testL,testW,wSize]
  ·simp (disch:=omega) only [qka,z1d,gL,dL,eC,uL,↓q3l,↓reduceIte,Option.bind_some,foldB,show ((9:Int)==2)=false from rfl,show ((9:Int)==3)=false from rfl,show ((9:Int)==4)=false from rfl,show ((9:Int)==5)=false from rfl,show ((9:Int)==6)=false from rfl,show ((9:Int)==7)=false from rfl,show ((9:Int)==8)=false from rfl,beq_self_eq_true,hq1,q2q,q2o,List.length_cons,List.length_nil,gm,Bool.false_eq_true]
   simp [testL,testW,wExists]
end Go.Proofs.YtognhcibcocbkaaGreatDoor
namespace Go.Proofs.YtognhcibcocbkaaGreatDoor
open Go.RowKit
theorem vL_mem {l:List S59} {d:Nat} (h:vL l d) {r:S59} (hr:r∈l):vR r d:=by
 induction l with
 |nil=>cases hr
 |cons a l ih =>
  rcases List.mem_cons.1 hr with rfl|hr
  ·exact h.1
  ·exact ih h.2 hr
theorem qv2 {l:List S59} {r:S59} (hr:r∈l):tsz r≤tszL l:=by
 induction l with
 |nil=>cases hr
 |cons a l ih =>
  simp only [tszL]
  rcases List.mem_cons.1 hr with rfl|hr
  ·omega
  ·have:=ih hr;omega
theorem qv3 (r:S59):1≤tsz r:=by rw [tsz_eq,tzT_eq];omega
theorem qb8:∀ l:List S59,l.length≤tszL l
 |[]=>Nat.zero_le _
 |r::l=>by have:=qb8 l;have:=qv3 r;simp only [tszL,List.length_cons];omega
theorem g7_s {l:List UInt8} (h:l.length≤1000000000000000):qjj (baL l)=some (baL (l++[10]),()):=by
 refine qjl ?_
 simp (disch:=omega) only [qjp,↓q3l,↓reduceIte,foldB,q2q,q2o,List.length_cons,List.length_nil,gm,Bool.false_eq_true]
theorem g17_s {l:List UInt8} (h:l.length≤1000000000000000):qjc (baL l)=some (baL (l++[59,10]),()):=by
 refine qje ?_
 simp (disch:=omega) only [qji,↓q3l,↓reduceIte,foldB,q2q,q2o,List.length_cons,List.length_nil,gm,Bool.false_eq_true]
theorem g15_6 {l:List UInt8} (h:l.length≤1000000000000) (k tk:Int) (tts:List S57) (tnm:ByteArray) (tp:Int) (ttx:ByteArray) (tn:Int) (th el:List S59) (nm tx:ByteArray) {n:Int} (hn:0≤n∧n≤1000000) :
  qj5 (baL l) k tk tts tnm tp ttx tn th el 6 nm tx n=some (baL (l++32::(Lib.decDigits n.toNat++[59,10])),()):=by
 have hi:=ito_s hn
 have hdl:=q52 6 n.toNat (by omega)
 refine qj7 ?_
 have g:=g17_s (l:=l++([32]++Lib.decDigits n.toNat)) (by simp only [List.length_append,List.length_cons,List.length_nil];omega)
 simp (disch:=omega) only [qjb,↓q3l,↓reduceIte,beq_self_eq_true,hi,Option.bind_some,foldB,q2q,q2o,List.length_append,List.length_cons,List.length_nil,gm,Bool.false_eq_true,g]
 simp
theorem g15_n {l:List UInt8} (h:l.length≤1000000000000) (k tk:Int) (tts:List S57) (tnm:ByteArray) (tp:Int) (ttx:ByteArray) (tn:Int) (th el:List S59) {act:Int} (ha:¬ act=6) (nm tx:ByteArray) (n:Int) :
  qj5 (baL l) k tk tts tnm tp ttx tn th el act nm tx n=some (baL (l++[59,10]),()):=by
 have e6:(act==6)=false:=by simpa using ha
 refine qj7 ?_
 simp (disch:=omega) only [qjb,↓q3l,↓reduceIte,e6,Option.bind_some,Bool.false_eq_true,g17_s]
noncomputable def ofR (r:S59) (d:Int):Option ByteArray:=qjq r.Kind r.Test_Kind r.Test_Tests r.Test_Name r.Test_Pattern r.Test_Text r.Test_N r.Then r.Else r.Act r.Name r.Text r.N d
theorem qdh (d:Nat) (l:List S59) (hl:l.length≤1000000000) (hz:tszL l≤1000000000) (hr:∀ r∈l,ofR r (d:Int)=some (baL (ruleL r d))∧(ruleL r d).length≤2000*tsz r) :
  ∀ m i (acc:List UInt8),i+m=l.length→acc.length+2000*tszL (l.drop i)≤2000*tszL l→qjw (d:Int) (baL acc) l (l.length:Int) (i:Int)=some (((d:Int),(baL (acc++rulesL (l.drop i) d),(l,((l.length:Int),((l.length:Int),false))))),()):=by
 intro m
 induction m with
 |zero =>
  intro i acc hi _
  have hi:i=l.length:=by omega
  subst hi
  refine qjy ?_
  simp only [qk2,z1e,gL,dL,eC,wI,p0,uL,q3l,q8h,EC.decL_encL,EC.isL_encL,EC.encL_length,q9u,q27,q28,q2c,q2d,q2e,q2f,q2g,q2h,q2i,q2j,q29,q2a,q2b,show ¬ ((l.length:Int)<(l.length:Int)) by omega,decide_false,Bool.false_eq_true,if_false,if_true,List.drop_length,rulesL,List.append_nil]
 |succ m ihm =>
  intro i acc hi ha
  have hlt:i<l.length:=by omega
  obtain ⟨h1,h1l⟩:=hr _ (List.getElem_mem hlt)
  have hm:=qv2 (List.getElem_mem hlt)
  have h1:qjq l[i].Kind l[i].Test_Kind l[i].Test_Tests l[i].Test_Name l[i].Test_Pattern l[i].Test_Text l[i].Test_N l[i].Then l[i].Else l[i].Act l[i].Name l[i].Text l[i].N (d:Int)=some (baL (ruleL l[i] d)):=h1
  have w1:IntKind.i64.wrap ((i:Int)+1)=((i+1:Nat):Int):=qvt hlt (by omega)
  have hdz:tszL (l.drop i)=tsz l[i]+tszL (l.drop (i+1)):=by rw [q5h hlt];rfl
  have hacc:acc.length+(ruleL l[i] d).length≤9223372036854775807:=by omega
  have h2:=ihm (i+1) (acc++ruleL l[i] d) (by omega) (by rw [List.length_append];omega)
  rw [q5h hlt,rulesL,←List.append_assoc]
  refine qjy ?_
  simp (disch:=omega) only [qk2,z1e,gL,dL,eC,wI,p0,uL,q3l,q8h,EC.decL_encL,EC.isL_encL,EC.encL_length,q9u,q27,q28,q2c,q2d,q2e,q2f,q2g,q2h,q2i,q2j,q29,q2a,q2b,show ((i:Int)<(l.length:Int)) by omega,show (0:Int)≤(i:Int) by omega,decide_true,Int.toNat_natCast,hlt,Bool.and_self,if_true,q8k hlt,h1,Option.bind_some,w1,q2q,q2o,gm,Bool.false_eq_true,if_false,h2]
theorem ofS_of (d:Nat) (l:List S59) (hz:tszL l≤1000000000) (hr:∀ r∈l,ofR r (d:Int)=some (baL (ruleL r d))∧(ruleL r d).length≤2000*tsz r):qk3 l (d:Int)=some (baL (rulesL l d)):=by
 have h:=qdh d l (by have:=qb8 l;omega) hz hr l.length 0 [] (by omega) (by simp)
 have h:qjw (d:Int) noTx l (l.length:Int) 0=_:=h
 refine qjv ?_
 simp only [qk4,gL,dL,lN,q8h,EC.decL_encL,EC.isL_encL,EC.encL_length,if_true,h,Option.bind_some,List.nil_append,List.drop_zero]
theorem qp {a:Int} (h:1≤a∧a≤7):[baL wKeep,baL wFile,baL wDiscard,baL wRedirect,baL wReject,baL wFlag,baL wReply].getD (Int.toNat (a - 1)) ByteArray.empty=baL (actW a):=by
 have:a=1∨a=2∨a=3∨a=4∨a=5∨a=6∨a=7:=by omega
 rcases this with rfl|rfl|rfl|rfl|rfl|rfl|rfl <;> rfl
theorem qgy {d:Nat} {r:S59} (hd:d≤8) (h:vR r (d+1)):(ruleL r d).length≤2000*tsz r:=by
 have:=qii (8 - d) d (by omega) [r] ⟨h,trivial⟩
 simpa [rulesL,tszL] using this
section
variable (tk:Int) (tts:List S57) (tnm:ByteArray) (tp:Int) (ttx:ByteArray) (tn:Int) (th el:List S59) (act:Int) (nm tx:ByteArray) (n d d1:Int) (I T A E:List UInt8)
 (hI:I.length≤1000) (hT:T.length≤10000000000000) (hA:A.length≤10000000000000) (hrep:repP (baL [32,32]) d=some (baL I)) (ht:qk9 tk tts tnm tp ttx tn=some (baL T)) (w1:IntKind.i64.wrap (d+1)=d1) (iht:qk3 th d1=some (baL A))
include hI hT hA hrep ht w1 iht
set_option maxHeartbeats 2000000 in
theorem qdf:qjq 1 tk tts tnm tp ttx tn th [] act nm tx n d=some (baL (I++([105,102,32]++(T++([32,123,10]++(A++(I++([125]++[10])))))))):=by
 have ce:decide (((0:Nat):Int)>0)=false:=rfl
 have g:=g7_s (l:=I++([105,102,32]++(T++([32,123,10]++(A++(I++[125])))))) (by simp only [List.length_append,List.length_cons,List.length_nil];omega)
 refine qj4 ?_
 simp (disch:=omega) only [qjr,z1f,gL,dL,lN,wI,p0,↓q3l,↓q8h,↓reduceIte,EC.decL_encL,EC.isL_encL,EC.encL_length,foldB,hrep,Option.bind_some,beq_self_eq_true,ht,w1,iht,ce,q2q,q2o,List.length_append,List.length_cons,List.length_nil,gm,Bool.false_eq_true,List.append_assoc,g]
set_option maxHeartbeats 8000000 in
theorem qdg (hel:0<el.length) (hE:E.length≤10000000000000) (ihe:qk3 el d1=some (baL E)):qjq 1 tk tts tnm tp ttx tn th el act nm tx n d =
  some (baL (I++([105,102,32]++(T++([32,123,10]++(A++(I++([125]++([32,101,108,115,101,32,123,10]++(E++(I++([125]++[10])))))))))))):=by
 have ce:decide (((el.length:Nat):Int)>0)=true:=by simp;omega
 have g:=g7_s (l:=I++([105,102,32]++(T++([32,123,10]++(A++(I++([125]++([32,101,108,115,101,32,123,10]++(E++(I++[125])))))))))) (by simp only [List.length_append,List.length_cons,List.length_nil];omega)
 refine qj4 ?_
 simp (maxSteps:=2000000) (disch:=omega) only [qjr,z1f,gL,dL,lN,wI,p0,↓q3l,↓q8h,↓reduceIte,EC.decL_encL,EC.isL_encL,EC.encL_length,foldB,hrep,Option.bind_some,beq_self_eq_true,ht,w1,iht,ihe,ce,q2q,q2o,List.length_append,List.length_cons,List.length_nil,gm,Bool.false_eq_true,List.append_assoc,g]
end
theorem ofR_s (d:Nat) (r:S59) (hv:vR r (d+1)) (hz:tsz r≤1000000000) (iht:qk3 r.Then ((d+1:Nat):Int)=some (baL (rulesL r.Then (d+1)))) (ihe:qk3 r.Else ((d+1:Nat):Int)=some (baL (rulesL r.Else (d+1)))) :
  ofR r (d:Int)=some (baL (ruleL r d)):=by
 obtain ⟨F,v1,v2⟩:=qvd hv
 have hd8:=F.d8
 have hrH:rHead r=0:=by
  cases r
  exact hv.2.1
 have S:=qg3 hrH
 have hlt:=qii (7 - d) (d+1) (by omega) r.Then v1
 have hle:=qii (7 - d) (d+1) (by omega) r.Else v2
 have htz:=tsz_eq r
 have hrep:=rep_s (d:=d) (by omega)
 have hil:=q9i d
 obtain ⟨k,tk,tts,tnm,tp,ttx,tn,th,el,act,nm,tx,n⟩:=r
 have q2:=q16c (bl tx)
 rw [qw5] at q2
 have hk:=F.k
 have hk1:=F.k1
 have hac:=F.ac
 simp only [tOf] at *
 clear v1 v2 F hrH hv
 have hq:=quo_s (s:=tx) (by omega)
 have w1:IntKind.i64.wrap ((d:Int)+1)=((d+1:Nat):Int):=qvt (n:=1000) (by omega) (by omega)
 show qjq k tk tts tnm tp ttx tn th el act nm tx n (d:Int)=some (baL (ruleL ⟨k,tk,tts,tnm,tp,ttx,tn,th,el,act,nm,tx,n⟩ d))
 have hcase:k=1∨k=2∨k=3∨k=4:=by omega
 rcases hcase with rfl|rfl|rfl|rfl
 ·have ht0:=(hk1 rfl).2.2.2.2
  have ht:=ofT_s 8 1 rfl ⟨tk,tts,tnm,tp,ttx,tn⟩ ht0 (by omega)
  have htl:=quf ht0
  have ht:qk9 tk tts tnm tp ttx tn=some (baL (testL ⟨tk,tts,tnm,tp,ttx,tn⟩)):=ht
  cases el with
  |nil =>
   refine (qdf tk tts tnm tp ttx tn th act nm tx n (d:Int) _ _ _ _ (by omega) (by omega) (by omega) hrep ht w1 iht).trans ?_
   simp [ruleL,wIf]
  |cons e0 el =>
   refine (qdg tk tts tnm tp ttx tn th (e0::el) act nm tx n (d:Int) _ _ _ _ _ (by omega) (by omega) (by omega) hrep ht w1 iht (by simp) (by omega) ihe).trans ?_
   simp [ruleL,wIf,wElse]
 ·obtain ⟨a1,a2,a3,a4⟩:=hac rfl
  refine qj4 ?_
  have hwl:=qn a1
  have wa:IntKind.i64.wrap (act - 1)=act - 1:=qvs (by omega)
  have ga:=qp a1
  have gi:((decide (0≤act - 1)&&decide (act - 1<((7:Nat):Int)))&&decide (Int.toNat (act - 1)<[baL wKeep,baL wFile,baL wDiscard,baL wRedirect,baL wReject,baL wFlag,baL wReply].length))=true:=by
   simp only [Bool.and_eq_true,decide_eq_true_eq,List.length_cons,List.length_nil];omega
  have e1:((2:Int)==1)=false:=rfl
  have e3:((2:Int)==3)=false:=rfl
  have e4:((2:Int)==4)=false:=rfl
  cases htx:txtB act with
  |true =>
   have n6:¬ act=6:=fun e=>by rw [e] at htx;cases htx
   simp (disch:=omega) only [qjr,z1f,gL,dL,lN,wI,p0,↓q3l,↓q8h,↓reduceIte,EC.decL_encL,EC.isL_encL,foldB,hrep,Option.bind_some,e1,e3,e4,qt,wa,ga,qum,htx,hq,q2q,q2o,List.length_append,List.length_cons,List.length_nil,gm,Bool.false_eq_true]
   rw [g15_n (by simp only [List.length_append,List.length_cons,List.length_nil];omega) _ _ _ _ _ _ _ _ _ n6]
   simp [ruleL,htx]
   omega
  |false =>
   by_cases h6:act=6
   ·subst h6
    simp (disch:=omega) only [qjr,z1f,gL,dL,lN,wI,p0,↓q3l,↓q8h,↓reduceIte,EC.decL_encL,EC.isL_encL,foldB,hrep,Option.bind_some,e1,e3,e4,qt,wa,ga,qum,htx,q2q,q2o,List.length_cons,List.length_nil,gm,Bool.false_eq_true]
    rw [g15_6 (by simp only [List.length_append];omega) _ _ _ _ _ _ _ _ _ _ _ (by omega)]
    simp [ruleL,htx]
   ·simp (disch:=omega) only [qjr,z1f,gL,dL,lN,wI,p0,↓q3l,↓q8h,↓reduceIte,EC.decL_encL,EC.isL_encL,foldB,hrep,Option.bind_some,e1,e3,e4,qt,wa,ga,qum,htx,q2q,q2o,List.length_cons,List.length_nil,gm,Bool.false_eq_true]
    rw [g15_n (by simp only [List.length_append];omega) _ _ _ _ _ _ _ _ _ h6]
    simp [ruleL,htx,h6]
    omega
 ·refine qj4 ?_
  have e1:((3:Int)==1)=false:=rfl
  obtain ⟨NM,rfl⟩:∃ l,nm=baL l:=⟨bl nm,(ba_bl nm).symm⟩
  have hN:bl (baL NM)=NM:=q2p NM
  have hns:=S.2
  rw [q2q] at hns
  simp (disch:=omega) only [qjr,z1f,gL,dL,lN,wI,p0,↓q3l,↓reduceIte,foldB,hrep,Option.bind_some,e1,beq_self_eq_true,hq,q2q,q2o,List.length_append,List.length_cons,List.length_nil,gm,Bool.false_eq_true]
  simp [ruleL,wSet,hN]
 ·refine qj4 ?_
  have e1:((4:Int)==1)=false:=rfl
  have e3:((4:Int)==3)=false:=rfl
  simp (disch:=omega) only [qjr,z1f,gL,dL,lN,wI,p0,↓q3l,↓reduceIte,foldB,hrep,Option.bind_some,e1,e3,beq_self_eq_true,q2q,q2o,List.length_cons,List.length_nil,gm,Bool.false_eq_true]
  simp [ruleL,wStop]
theorem ofS_s:∀ (e d:Nat),d+e=8→∀ l:List S59,vL l (d+1)→tszL l≤1000000000→qk3 l (d:Int)=some (baL (rulesL l d))
 |0,d,hd,l,hv,hz=>ofS_of d l hz fun r hr=>by have:=(qvd (vL_mem hv hr)).1.d8;omega
 |e+1,d,hd,l,hv,hz=>ofS_of d l hz fun r hr=>by
  have h1:=vL_mem hv hr
  have h2:=qv2 hr
  have h3:=tsz_eq r
  obtain ⟨_,v1,v2⟩:=qvd h1
  exact ⟨ofR_s d r h1 (by omega) (ofS_s e (d+1) (by omega) r.Then v1 (by omega)) (ofS_s e (d+1) (by omega) r.Else v2 (by omega)),qgy (by omega) h1⟩
def sPrint (l:List S59):ByteArray×(Int×Int):=if (scriptF l).1≠0 then (noTx,scriptF l) else if 4000<(rulesL l 0).length then (noTx,(1,-1)) else (baL (rulesL l 0),(0,0))
theorem qrp {l:List S59} (h:(scriptF l).1=0):vL l 1:=by
 obtain ⟨m,h1,_,_⟩:=qrq h
 exact ck_v _ l rfl _ _ _ h1
theorem qfk (l:List S59) (hl:l.length≤big) (ho:okL l) (hz:(scriptF l).1=0→tszL l≤1000000000):qhb l=some (sPrint l):=by
 have hv:=qvf l hl ho
 unfold sPrint
 by_cases hf:(scriptF l).1=0
 ·have ef:((scriptF l).1 != 0)=false:=by simp [hf]
  have hs:=ofS_s 8 0 rfl l (qrp hf) (hz hf)
  have hs:qk3 l 0=some (baL (rulesL l 0)):=hs
  rw [if_neg (by simp [hf])]
  by_cases h4:4000<(rulesL l 0).length
  ·rw [if_pos h4]
   refine qha ?_
   simp only [qhc,gL,dL,↓q3l,↓q8h,↓reduceIte,EC.decL_encL,EC.isL_encL,hv,q71,ef,hs,Option.bind_some,q2q,show (((rulesL l 0).length:Nat):Int)>4000 by omega,decide_true,q72,Bool.false_eq_true]
  ·rw [if_neg h4]
   refine qha ?_
   simp only [qhc,gL,dL,↓q3l,↓q8h,↓reduceIte,EC.decL_encL,EC.isL_encL,hv,q71,ef,hs,Option.bind_some,q2q,show ¬ (((rulesL l 0).length:Nat):Int)>4000 by omega,decide_false,none_s,Bool.false_eq_true]
 ·have ef:((scriptF l).1 != 0)=true:=by simp [hf]
  rw [if_pos hf]
  refine qha ?_
  simp only [qhc,gL,dL,↓q3l,↓q8h,↓reduceIte,EC.decL_encL,EC.isL_encL,hv,q71,ef,Option.bind_some]
section
variable (b:ByteArray) (hb:b.size≤4000)
include hb
omit hb in
theorem qwc {k:Nat} (hk:k<b.size):b.extract k (k+1)=baL [b.data.getD k 0]:=by
 rw [q6v,q4t b hk,show k+1 - k=1 by omega];rfl
omit hb in
end
end Go.Proofs.YtognhcibcocbkaaGreatDoor
