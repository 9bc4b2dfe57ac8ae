/- The reference writes texts, numbers and lists as specified. -/
import Derived.Test.YtognhcibcocbkaaGreatDoorZ27
namespace Go.Proofs.YtognhcibcocbkaaGreatDoor
open Go.RowKit
theorem q16b (s:ByteArray) (hs:s.size≤1000000000):∀ m i (acc:List UInt8),i+m=s.size→acc.length≤2*i+1 →
  qyf s (baL acc) (i:Int)=some ((s,(baL (acc++esc (s.data.toList.drop i)),((s.size:Int),false))),()):=by
 intro m
 induction m with
 |zero =>
  intro i acc hi ha
  have hi:i=s.size:=by omega
  subst hi
  have hd:s.data.toList.drop s.size=[]:=by rw [List.drop_eq_nil_iff];simp
  refine qyh ?_
  simp only [qyl,zr,zt,wI,p0,↓q3l,↓reduceIte,show ¬ (((s.size:Nat):Int)<(s.size:Int)) by omega,decide_false,Bool.false_eq_true,hd,esc,List.append_nil]
 |succ m ihm =>
  intro i acc hi ha
  have hlt:i<s.size:=by omega
  have c34:∀ c:UInt8,(((c.toNat:Nat):Int)==(34:Int))=decide (c=34):=fun c=>c_eq c 34 (by decide)
  have c92:∀ c:UInt8,(((c.toNat:Nat):Int)==(92:Int))=decide (c=92):=fun c=>c_eq c 92 (by decide)
  have w1:IntKind.i64.wrap ((i:Int)+1)=((i+1:Nat):Int):=qvt hlt (by omega)
  have b1:(decide ((0:Int)≤((i+1:Nat):Int))&&decide (((i+1:Nat):Int)≤((s.size:Nat):Int)))=true:=by simp;omega
  have b2:(decide ((0:Int)≤(i:Int))&&decide ((i:Int)≤((i+1:Nat):Int)))=true:=by simp;omega
  have b3:(decide ((0:Int)≤(i:Int))&&decide (i<s.size))=true:=by simp;omega
  have b4:decide ((i:Int)<((s.size:Nat):Int))=true:=by simp;omega
  have hx:=qwc s hlt
  have h0:=ihm (i+1) (acc++[s.data.getD i 0]) (by omega) (by simp only [List.length_append,List.length_cons,List.length_nil];omega)
  have h1:=ihm (i+1) (acc++([92]++[s.data.getD i 0])) (by omega) (by simp only [List.length_append,List.length_cons,List.length_nil];omega)
  rw [q4t s hlt]
  refine qyh ?_
  by_cases k34:s.data.getD i 0=34
  ·simp (disch:=omega) only [qyl,zr,zt,wI,p0,↓q3l,↓q8h,↓reduceIte,b1,b2,b3,b4,w1,c34,Int.toNat_natCast,hx,k34,decide_true,foldB,q2q,q2o,gm,List.length_append,List.length_cons,List.length_nil,Bool.false_eq_true,Bool.true_eq_false,beq_iff_eq]
   rw [k34] at h1
   rw [List.append_assoc,h1]
   simp [esc]
  ·by_cases k92:s.data.getD i 0=92
   ·simp (disch:=omega) only [qyl,zr,zt,wI,p0,↓q3l,↓q8h,↓reduceIte,b1,b2,b3,b4,w1,c34,c92,Int.toNat_natCast,hx,k92,show ¬ ((92:UInt8)=34) by decide,decide_false,decide_true,foldB,q2q,q2o,gm,List.length_append,List.length_cons,List.length_nil,Bool.false_eq_true,beq_self_eq_true]
    rw [k92] at h1
    rw [List.append_assoc,h1]
    simp [esc]
   ·simp (disch:=omega) only [qyl,zr,zt,wI,p0,↓q3l,↓q8h,↓reduceIte,b1,b2,b3,b4,w1,c34,c92,Int.toNat_natCast,hx,k34,k92,decide_false,q2q,q2o,gm,List.length_cons,List.length_nil,Bool.false_eq_true,beq_self_eq_true]
    rw [h0,esc,if_neg (by rw [not_or];exact ⟨k34,k92⟩),List.append_assoc]
    rfl
theorem qref_s {s:ByteArray} (hs:s.size≤1000000000):qym s=some (baL (quoL (bl s))):=by
 have h:=q16b s hs s.size 0 [34] (by omega) (by simp)
 have h:qyf s (baL [34]) 0=_:=h
 have q:=q16c (bl s)
 rw [qw5] at q
 have q2:(quoL (bl s)).length=(esc (bl s)).length+2:=by simp [quoL]
 refine qye ?_
 have hb:s.data.toList.drop 0=bl s:=by simp [bl]
 rw [hb] at h
 simp (disch:=omega) only [qyn,↓q3l,↓reduceIte,foldB,h,Option.bind_some,q2q,q2o,gm,List.length_append,List.length_cons,List.length_nil,Bool.false_eq_true]
 simp [quoL]
def digs:List UInt8:=[48,49,50,51,52,53,54,55,56,57]
theorem qwa (u:Nat) (h:u<10):(baL digs).extract u (u+1)=baL [UInt8.ofNat (48+u)]:=by
 rw [q6v,q2p,Nat.add_sub_cancel_left]
 match u,h with
 |0,_=>rfl
 |1,_=>rfl
 |2,_=>rfl
 |3,_=>rfl
 |4,_=>rfl
 |5,_=>rfl
 |6,_=>rfl
 |7,_=>rfl
 |8,_=>rfl
 |9,_=>rfl
theorem qw8:∀ (u:Nat) (t:List UInt8),u≤1000000→t.length+u≤100000000→∃ x,qx6 u (baL digs) (baL (UInt8.ofNat (48+u % 10)::t))=some x∧x.1.2.2.1=baL (Lib.decDigits u++t):=by
 intro u
 induction u using Nat.strongRecOn with
 |_ u ih =>
  intro t hu hs
  by_cases h10:u<10
  ·have c:decide (((u:Nat):Int)≥10)=false:=decide_eq_false (by omega)
   refine ⟨((((u:Nat):Int),(baL digs,(baL (UInt8.ofNat (48+u % 10)::t),false))),()),qx8 (by simp only [qxc,zp,wI,p0,↓q3l,c,Bool.false_eq_true,↓reduceIte]),?_⟩
   rw [Lib.decDigits,dif_pos h10,Nat.mod_eq_of_lt h10];rfl
  ·have c:decide (((u:Nat):Int)≥10)=true:=decide_eq_true (by omega)
   have w0:IntKind.i64.wrap (Int.tdiv ((u:Nat):Int) 10)=((u / 10:Nat):Int):=by
    rw [show Int.tdiv ((u:Nat):Int) 10=((u / 10:Nat):Int) from rfl,qvs (by omega)]
   have w1:Int.tmod ((u / 10:Nat):Int) 10=((u / 10 % 10:Nat):Int):=rfl
   have w2:IntKind.i64.wrap (((u / 10 % 10:Nat):Int)+1)=((u / 10 % 10+1:Nat):Int):=by rw [qvs (by omega)];omega
   have c1:decide ((0:Int)≤((u / 10 % 10+1:Nat):Int))=true:=decide_eq_true (by omega)
   have c2:decide (((u / 10 % 10+1:Nat):Int)≤((digs.length:Nat):Int))=true:=decide_eq_true (by show _≤(10:Int);omega)
   have c3:decide ((0:Int)≤((u / 10 % 10:Nat):Int))=true:=decide_eq_true (by omega)
   have c4:decide (((u / 10 % 10:Nat):Int)≤((u / 10 % 10+1:Nat):Int))=true:=decide_eq_true (by omega)
   have hx:=qwa (u / 10 % 10) (by omega)
   obtain ⟨x,x1,x2⟩:=ih (u / 10) (by omega) (UInt8.ofNat (48+u % 10)::t) (by omega) (by simp only [List.length_cons];omega)
   refine ⟨x,qx8 ?_,?_⟩
   ·simp (disch:=omega) only [qxc,zp,wI,p0,↓q3l,↓q8h,c,↓reduceIte,w0,w1,w2,c1,c2,c3,c4,Bool.and_self,Int.toNat_natCast,hx,q2q,q2o,gm,List.length_cons,List.length_nil,Bool.false_eq_true,List.cons_append,List.nil_append]
    exact x1
   ·rw [x2]
    conv=>rhs;rw [Lib.decDigits,dif_neg h10]
    simp
theorem qw9 {n:Int} (h:0≤n∧n≤1000000):qxd n=some (baL (Lib.decDigits n.toNat)):=by
 obtain ⟨u,rfl⟩:∃ u:Nat,n=u:=⟨n.toNat,by omega⟩
 have w1:Int.tmod ((u:Nat):Int) 10=((u % 10:Nat):Int):=rfl
 have w2:IntKind.i64.wrap (((u % 10:Nat):Int)+1)=((u % 10+1:Nat):Int):=by rw [qvs (by omega)];omega
 have c1:decide ((0:Int)≤((u % 10+1:Nat):Int))=true:=decide_eq_true (by omega)
 have c2:decide (((u % 10+1:Nat):Int)≤((digs.length:Nat):Int))=true:=decide_eq_true (by show _≤(10:Int);omega)
 have c3:decide ((0:Int)≤((u % 10:Nat):Int))=true:=decide_eq_true (by omega)
 have c4:decide (((u % 10:Nat):Int)≤((u % 10+1:Nat):Int))=true:=decide_eq_true (by omega)
 have hx:=qwa (u % 10) (by omega)
 obtain ⟨x,x1,x2⟩:=qw8 u [] (by omega) (by simp only [List.length_nil];omega)
 have hd:ByteArray.mk (List.toArray [(48:UInt8),(49:UInt8),(50:UInt8),(51:UInt8),(52:UInt8),(53:UInt8),(54:UInt8),(55:UInt8),(56:UInt8),(57:UInt8)])=baL digs:=rfl
 refine qx5 ?_
 simp only [qxe,wI,p0,↓q8h,w1,w2,hd,c1,q2q,c2,c3,c4,Bool.and_self,Int.toNat_natCast,↓reduceIte,hx,x1,Option.bind_some,x2,List.append_nil]
theorem qwg (l:List S57) (hl:l.length≤1000000000) :
  ∀ m i (acc:List UInt8),i+m=l.length→1≤i→acc.length+(testsC (l.drop i)).length≤1000000000000000 →
  qxp (l.map fun t=>baL (testL t)) (baL [44,32]) (baL acc) (i:Int)=some (((l.map fun t=>baL (testL t)),(baL [44,32],(baL (acc++testsC (l.drop i)),((l.length:Int),false)))),()):=by
 intro m
 induction m with
 |zero =>
  intro i acc hi _ _
  have hi:i=l.length:=by omega
  subst hi
  refine qxr ?_
  simp only [qxv,zq,gL,dL,lN,eC,wI,p0,↓q3l,↓q8h,↓reduceIte,EC.decL_encL,EC.isL_encL,EC.encL_length,List.length_map,show ¬ ((l.length:Int)<(l.length:Int)) by omega,decide_false,Bool.false_eq_true,List.drop_length,testsC,List.append_nil]
 |succ m ihm =>
  intro i acc hi h1 ha
  have hlt:i<l.length:=by omega
  rw [q5h hlt,testsC] at ha
  simp only [List.length_cons,List.length_append] at ha
  have w1:IntKind.i64.wrap ((i:Int)+1)=((i+1:Nat):Int):=qvt hlt (by omega)
  have hg:(l.map fun t=>baL (testL t)).getD i (q5m.dec [])=baL (testL l[i]):=by rw [q8k (by simpa using hlt)];simp
  have h2:=ihm (i+1) (acc++([44,32]++testL l[i])) (by omega) (by omega) (by simp only [List.length_append,List.length_cons,List.length_nil];omega)
  rw [q5h hlt,testsC]
  refine qxr ?_
  simp (disch:=omega) only [qxv,zq,gL,dL,lN,eC,wI,p0,↓q3l,↓q8h,↓reduceIte,EC.decL_encL,EC.isL_encL,EC.encL_length,isE_9,at_9_0,List.length_map,show ((i:Int)<(l.length:Int)) by omega,show ((i:Int)>0) by omega,show (0:Int)≤(i:Int) by omega,decide_true,Int.toNat_natCast,hlt,Bool.and_self,hg,w1,q2q,q2o,gm,List.length_append,List.length_cons,List.length_nil,Bool.false_eq_true,List.append_assoc,h2]
  simp
theorem jref_s {l:List S57} (hl:l.length≤1000000000) (hz:(testsL l).length≤1000000000000):qxw (l.map fun t=>baL (testL t)) (baL [44,32])=some (baL (testsL l)):=by
 cases l with
 |nil =>
  have h:qxp ([].map fun t:S57=>baL (testL t)) (baL [44,32]) (baL []) 0=some (([],(baL [44,32],(baL [],(0,false)))),()):=by
   refine qxr ?_
   simp only [qxv,zq,gL,dL,lN,eC,wI,p0,↓q3l,↓q8h,↓reduceIte,EC.decL_encL,EC.isL_encL,EC.encL_length,isE_9,at_9_0,List.map_nil,List.length_nil]
   rfl
  refine qxo ?_
  simp only [qxx,gL,dL,↓q8h,↓reduceIte,EC.decL_encL,EC.isL_encL,foldB,h,Option.bind_some]
  rfl
 |cons t l =>
  simp only [testsL,List.length_append] at hz
  have h:=qwg (t::l) hl l.length 1 (testL t) (by simp only [List.length_cons];omega) (by omega) (by simp only [List.drop_succ_cons,List.drop_zero];omega)
  have w1:IntKind.i64.wrap ((0:Int)+1)=((1:Nat):Int):=qvs (by omega)
  have hg:((t::l).map fun t=>baL (testL t)).getD (Int.toNat 0) (q5m.dec [])=baL (testL t):=rfl
  have h0:qxp ((t::l).map fun t=>baL (testL t)) (baL [44,32]) (baL []) 0=some ((((t::l).map fun t=>baL (testL t)),(baL [44,32],(baL (testL t++testsC l),(((t::l).length:Int),false)))),()):=by
   refine qxr ?_
   simp (disch:=omega) only [qxv,zq,gL,dL,lN,eC,wI,p0,↓q3l,↓q8h,↓reduceIte,EC.decL_encL,EC.isL_encL,EC.encL_length,isE_9,at_9_0,List.length_map,show ((0:Int)<((t::l).length:Int)) by simp only [List.length_cons];omega,show ¬ ((0:Int)>0) by omega,show (0:Int)≤0 by omega,decide_true,decide_false,show Int.toNat 0<(t::l).length by simp,Bool.and_self,hg,w1,q2q,q2o,gm,List.length_nil,Bool.false_eq_true,List.nil_append,h]
   rfl
  refine qxo ?_
  simp only [qxx,gL,dL,↓q8h,↓reduceIte,EC.decL_encL,EC.isL_encL,foldB,h0,Option.bind_some]
  rfl
end Go.Proofs.YtognhcibcocbkaaGreatDoor
namespace Go.Proofs.YtognhcibcocbkaaGreatDoor
open Go.RowKit
def matsL:List (List C):=[[(C.str (ByteArray.mk (List.toArray [])))],[(C.str (ByteArray.mk (List.toArray [(105:UInt8),(115:UInt8)])))],[(C.str (ByteArray.mk (List.toArray [(99:UInt8),(111:UInt8),(110:UInt8),(116:UInt8),(97:UInt8),(105:UInt8),(110:UInt8),(115:UInt8)])))],[(C.str (ByteArray.mk (List.toArray [(108:UInt8),(105:UInt8),(107:UInt8),(101:UInt8)])))]]
theorem nrfl {α:Type} {a c:α} (h:a=c):a=c:=h
theorem qwq:[[(C.str (ByteArray.mk (List.toArray [])))],[(C.str (ByteArray.mk (List.toArray [(105:UInt8),(115:UInt8)])))],[(C.str (ByteArray.mk (List.toArray [(99:UInt8),(111:UInt8),(110:UInt8),(116:UInt8),(97:UInt8),(105:UInt8),(110:UInt8),(115:UInt8)])))],[(C.str (ByteArray.mk (List.toArray [(108:UInt8),(105:UInt8),(107:UInt8),(101:UInt8)])))]]=matsL:=nrfl rfl
theorem qwp {p:Int} (hp:1≤p∧p≤3):(decide (Int.toNat p<matsL.length)&&((matsL.getD (Int.toNat p) []).length==1))=true∧isP [K1.str] 0 (matsL.getD (Int.toNat p) [])=true∧qss ((matsL.getD (Int.toNat p) []).getD 0 C.ne)=baL (matchW p):=by
 have:p=1∨p=2∨p=3:=by omega
 rcases this with rfl|rfl|rfl <;> exact ⟨rfl,rfl,rfl⟩
def wordsT:List (List C):=[[(C.str (ByteArray.mk (List.toArray [])))],[(C.str (ByteArray.mk (List.toArray [(116:UInt8),(114:UInt8),(117:UInt8),(101:UInt8)])))],[(C.str (ByteArray.mk (List.toArray [(110:UInt8),(111:UInt8),(116:UInt8)])))],[(C.str (ByteArray.mk (List.toArray [(97:UInt8),(108:UInt8),(108:UInt8)])))],[(C.str (ByteArray.mk (List.toArray [(97:UInt8),(110:UInt8),(121:UInt8)])))],[(C.str (ByteArray.mk (List.toArray [(104:UInt8),(101:UInt8),(97:UInt8),(100:UInt8),(101:UInt8),(114:UInt8)])))],[(C.str (ByteArray.mk (List.toArray [(102:UInt8),(114:UInt8),(111:UInt8),(109:UInt8)])))],[(C.str (ByteArray.mk (List.toArray [(116:UInt8),(111:UInt8)])))],[(C.str (ByteArray.mk (List.toArray [(115:UInt8),(105:UInt8),(122:UInt8),(101:UInt8)])))],[(C.str (ByteArray.mk (List.toArray [(101:UInt8),(120:UInt8),(105:UInt8),(115:UInt8),(116:UInt8),(115:UInt8)])))]]
theorem q177:[[(C.str (ByteArray.mk (List.toArray [])))],[(C.str (ByteArray.mk (List.toArray [(116:UInt8),(114:UInt8),(117:UInt8),(101:UInt8)])))],[(C.str (ByteArray.mk (List.toArray [(110:UInt8),(111:UInt8),(116:UInt8)])))],[(C.str (ByteArray.mk (List.toArray [(97:UInt8),(108:UInt8),(108:UInt8)])))],[(C.str (ByteArray.mk (List.toArray [(97:UInt8),(110:UInt8),(121:UInt8)])))],[(C.str (ByteArray.mk (List.toArray [(104:UInt8),(101:UInt8),(97:UInt8),(100:UInt8),(101:UInt8),(114:UInt8)])))],[(C.str (ByteArray.mk (List.toArray [(102:UInt8),(114:UInt8),(111:UInt8),(109:UInt8)])))],[(C.str (ByteArray.mk (List.toArray [(116:UInt8),(111:UInt8)])))],[(C.str (ByteArray.mk (List.toArray [(115:UInt8),(105:UInt8),(122:UInt8),(101:UInt8)])))],[(C.str (ByteArray.mk (List.toArray [(101:UInt8),(120:UInt8),(105:UInt8),(115:UInt8),(116:UInt8),(115:UInt8)])))]]=wordsT:=nrfl rfl
theorem q176 {k:Int} (hk:1≤k∧k≤9):(decide (Int.toNat k<wordsT.length)&&((wordsT.getD (Int.toNat k) []).length==1))=true∧isP [K1.str] 0 (wordsT.getD (Int.toNat k) [])=true∧qss ((wordsT.getD (Int.toNat k) []).getD 0 C.ne)=baL (testW k):=by
 have:k=1∨k=2∨k=3∨k=4∨k=5∨k=6∨k=7∨k=8∨k=9:=by omega
 rcases this with rfl|rfl|rfl|rfl|rfl|rfl|rfl|rfl|rfl <;> exact ⟨rfl,rfl,rfl⟩
noncomputable def rT (t:S57):Option ByteArray:=q155 t.Kind t.Tests t.Name t.Pattern t.Text t.N
def p11 (k:Int) (ts:List S57):List UInt8:=if k=3∨k=4 then 32::40::(testsL ts++[41]) else []
def p9 (k:Int) (ts:List S57):List UInt8:=if k=2 then 32::testsL ts else []
def p7 (k n:Int):List UInt8:=if k=8 then 32::Lib.decDigits n.toNat else []
def p5 (k p:Int) (tx:ByteArray):List UInt8:=if 5≤k∧k≤7 then 32::matL p tx else []
def pk0 (k:Int) (nm:ByteArray):List UInt8:=if k=5∨k=9 then 32::quoL (bl nm) else []
theorem q170 {k:Int} (hk:1≤k∧k≤9) (ts:List S57) (nm:ByteArray) (p:Int) (tx:ByteArray) (n:Int):testL ⟨k,ts,nm,p,tx,n⟩=testW k++pk0 k nm++p5 k p tx++p7 k n++p9 k ts++p11 k ts:=by
 have:k=1∨k=2∨k=3∨k=4∨k=5∨k=6∨k=7∨k=8∨k=9:=by omega
 rcases this with rfl|rfl|rfl|rfl|rfl|rfl|rfl|rfl|rfl <;> simp [testL,pk0,p5,p7,p9,p11]
section
variable (k:Int) (ts:List S57) (nm:ByteArray) (p:Int) (tx:ByteArray) (n:Int) (hl:ts.length≤1000000000) (hz:(testsL ts).length≤1000000000000) (ih:∀ t∈ts,rT t=some (baL (testL t)))
include hl hz ih
omit hz in
theorem qwh (o:ByteArray) :
  ∀ m i,i+m=ts.length→q14y o i (i:Int) k ts nm p tx n ((ts.take i).map fun t=>baL (testL t))=some (((),(o,(ts.length,((ts.length:Int),false)))),((k,(ts,(nm,(p,(tx,n))))),ts.map fun t=>baL (testL t))):=by
 intro m
 induction m with
 |zero =>
  intro i hi
  have hi:i=ts.length:=by omega
  subst hi
  refine q150 ?_
  simp only [q154,z13,gL,dL,lN,eC,wI,p0,aL,dQ,dM,uL,↓q3l,↓q8h,↓reduceIte,EC.decL_encL,EC.isL_encL,EC.encL_length,show ¬ ((ts.length:Int)<(ts.length:Int)) by omega,decide_false,Bool.false_eq_true,List.take_length]
 |succ m ihm =>
  intro i hi
  have hlt:i<ts.length:=by omega
  have h1:q155 ts[i].Kind ts[i].Tests ts[i].Name ts[i].Pattern ts[i].Text ts[i].N=some (baL (testL ts[i])):=ih _ (List.getElem_mem hlt)
  have w1:IntKind.i64.wrap ((i:Int)+1)=((i+1:Nat):Int):=qvt hlt (by omega)
  have e1:decide ((i+1+(i+1) / 4+192)*16≤281474976710656)=true:=by simp;omega
  have e2:decide (i+1≤9223372036854775807)=true:=by simp;omega
  have et:((ts.take i).map fun t=>baL (testL t))++[baL (testL ts[i])]=(ts.take (i+1)).map fun t=>baL (testL t):=by
   rw [List.take_succ_eq_append_getElem hlt,List.map_append];rfl
  have h2:=ihm (i+1) (by omega)
  refine q150 ?_
  simp only [q154,z13,gL,dL,lN,eC,wI,p0,aL,dQ,dM,uL,↓q3l,↓q8h,↓reduceIte,EC.decL_encL,EC.isL_encL,EC.encL_length,qwf,q21,q22,q23,q24,q25,q26,all_9,apd_9,show ((i:Int)<(ts.length:Int)) by omega,show (0:Int)≤(i:Int) by omega,decide_true,Int.toNat_natCast,hlt,Bool.and_self,q8k hlt,h1,Option.bind_some,w1,List.length_cons,List.length_nil,Nat.zero_add,e1,e2,List.all_cons,List.all_nil,beq_self_eq_true,et,h2]
omit hl hz ih in
theorem g18_s (o:ByteArray):q146 o=some (o,()):=q148 rfl
theorem g11_s {o:List UInt8} (ho:o.length≤1000000000000000):q13z (baL o) k ts nm p tx n=some (baL (o++p11 k ts),()):=by
 have h:=qwh k ts nm p tx n hl ih (baL o) ts.length 0 (by omega)
 have h:q14y (baL o) 0 0 k ts nm p tx n []=_:=h
 have d0:q5m.decL []=[]:=rfl
 have hj:=jref_s hl hz
 have hg:=g18_s
 refine q141 ?_
 by_cases k3:k=3
 ·subst k3
  simp (disch:=omega) only [q145,gL,dL,↓q3l,↓q8h,↓reduceIte,EC.decL_encL,EC.isL_encL,show ((3:Int)==3)=true from rfl,show (true==false)=false from rfl,d0,h,hj,hg,foldB,Option.bind_some,q2q,q2o,gm,List.length_append,List.length_cons,List.length_nil,Bool.false_eq_true]
  simp [p11]
 ·by_cases k4:k=4
  ·subst k4
   simp (disch:=omega) only [q145,gL,dL,↓q3l,↓q8h,↓reduceIte,EC.decL_encL,EC.isL_encL,show ((4:Int)==3)=false from rfl,show ((4:Int)==4)=true from rfl,beq_self_eq_true,d0,h,hj,hg,foldB,Option.bind_some,q2q,q2o,gm,List.length_append,List.length_cons,List.length_nil,Bool.false_eq_true]
   simp [p11]
  ·have e3:(k==3)=false:=by simpa using k3
   have e4:(k==4)=false:=by simpa using k4
   simp only [q145,gL,dL,↓q3l,↓reduceIte,e3,e4,beq_self_eq_true,hg,Option.bind_some,Bool.false_eq_true,p11,if_neg (not_or.2 ⟨k3,k4⟩),List.append_nil]
theorem g9_s (h2:k=2→ts.length=1) {o:List UInt8} (ho:o.length≤100000000000000):q14r (baL o) k ts nm p tx n=some (baL (o++p9 k ts++p11 k ts),()):=by
 refine q14t ?_
 by_cases k2:k=2
 ·subst k2
  obtain ⟨u,rfl⟩:∃ u,ts=[u]:=List.length_eq_one_iff.1 (h2 rfl)
  have h1:q155 u.Kind u.Tests u.Name u.Pattern u.Text u.N=some (baL (testL u)):=ih u (by simp)
  have hl2:testsL [u]=testL u:=by simp [testsL,testsC]
  have g0:([u]:List S57).getD (Int.toNat 0) (q5k.dec [])=u:=rfl
  have g1:decide (Int.toNat 0<[u].length)=true:=rfl
  rw [hl2] at hz
  have g:=g11_s 2 [u] nm p tx n hl (by rw [hl2];exact hz) ih (o:=o++([32]++testL u)) (by simp only [List.length_append,List.length_cons,List.length_nil];omega)
  simp (disch:=omega) only [q14x,z14,gL,dL,eC,uL,↓q3l,↓q8h,↓reduceIte,EC.decL_encL,EC.isL_encL,EC.encL_length,qwf,q21,q22,q23,q24,q25,q26,beq_self_eq_true,g0,Bool.and_self,h1,foldB,Option.bind_some,q2q,q2o,gm,List.length_append,List.length_cons,List.length_nil,Bool.false_eq_true,g]
  simp [p9,hl2]
 ·have e2:(k==2)=false:=by simpa using k2
  have g:=g11_s k ts nm p tx n hl hz ih (o:=o) (by omega)
  simp only [q14x,z14,gL,dL,eC,uL,↓q3l,↓q8h,↓reduceIte,EC.decL_encL,EC.isL_encL,e2,Bool.false_eq_true,g,Option.bind_some,p9,if_neg k2,List.append_nil]
theorem g7t_s (h2:k=2→ts.length=1) (hn:0≤n∧n≤1000000) {o:List UInt8} (ho:o.length≤10000000000000):q14k (baL o) k ts nm p tx n=some (baL (o++p7 k n++p9 k ts++p11 k ts),()):=by
 have hd:=qw9 hn
 have hdl:=q52 6 n.toNat (by omega)
 refine q14m ?_
 by_cases k8:k=8
 ·have g:=g9_s k ts nm p tx n hl hz ih h2 (o:=o++([32]++Lib.decDigits n.toNat)) (by simp only [List.length_append,List.length_cons,List.length_nil];omega)
  have e8:(k==8)=true:=by simpa using k8
  simp (disch:=omega) only [q14q,gL,dL,↓q3l,↓q8h,↓reduceIte,EC.decL_encL,EC.isL_encL,e8,hd,foldB,Option.bind_some,q2q,q2o,gm,List.length_append,List.length_cons,List.length_nil,Bool.false_eq_true,g]
  simp [p7,k8]
 ·have e8:(k==8)=false:=by simpa using k8
  have g:=g9_s k ts nm p tx n hl hz ih h2 (o:=o) (by omega)
  simp only [q14q,gL,dL,↓q3l,↓q8h,↓reduceIte,EC.decL_encL,EC.isL_encL,e8,Bool.false_eq_true,g,Option.bind_some,p7,if_neg k8,List.append_nil]
theorem g5t_s (h2:k=2→ts.length=1) (hn:0≤n∧n≤1000000) (hp:5≤k∧k≤7→1≤p∧p≤3) (ht:tx.size≤1000000) {o:List UInt8} (ho:o.length≤1000000000000):q14d (baL o) k ts nm p tx n=some (baL (o++p5 k p tx++p7 k n++p9 k ts++p11 k ts),()):=by
 have hi:=qwd k 5 7
 have hq:=qref_s (s:=tx) (by omega)
 have q2:=q16c (bl tx)
 rw [qw5] at q2
 refine q14f ?_
 by_cases k5:5≤k∧k≤7
 ·have e5:(decide (5≤k)&&decide (k≤7))=true:=by simpa using k5
  have hp:=hp k5
  have hml:=qc1 hp
  obtain ⟨m1,m2,m3⟩:=qwp hp
  have m0:(decide ((0:Int)≤p)&&decide (p<((4:Nat):Int)))=true:=by simp;omega
  have g:=g7t_s k ts nm p tx n hl hz ih h2 hn (o:=o++([32]++(matchW p++([32]++quoL (bl tx))))) (by simp only [List.length_append,List.length_cons,List.length_nil];omega)
  simp only [q14j,z15,z16,gL,dL,p0,qwq]
  simp (disch:=omega) only [↓q3l,↓q8h,↓reduceIte,EC.decL_encL,EC.isL_encL,hi,e5,m0,m1,m2,m3,hq,foldB,Option.bind_some,q2q,q2o,gm,List.length_append,List.length_cons,List.length_nil,Bool.false_eq_true,List.append_assoc,g]
  simp [p5,k5,matL]
 ·have e5:(decide (5≤k)&&decide (k≤7))=false:=by
   rw [Bool.and_eq_false_iff,decide_eq_false_iff_not,decide_eq_false_iff_not];omega
  have g:=g7t_s k ts nm p tx n hl hz ih h2 hn (o:=o) (by omega)
  simp only [q14j,z15,z16,gL,dL,p0,↓q3l,↓q8h,↓reduceIte,EC.decL_encL,EC.isL_encL,hi,e5,Bool.false_eq_true,g,Option.bind_some,p5,if_neg k5,List.append_nil]
theorem tt_s (hk:1≤k∧k≤9) (h2:k=2→ts.length=1) (hn:0≤n∧n≤1000000) (hp:5≤k∧k≤7→1≤p∧p≤3) (ht:tx.size≤1000000) (hm:nm.size≤1000000):q155 k ts nm p tx n=some (baL (testL ⟨k,ts,nm,p,tx,n⟩)):=by
 rw [q170 hk]
 obtain ⟨m1,m2,m3⟩:=q176 hk
 have hwl:=qub hk
 have m0:(decide ((0:Int)≤k)&&decide (k<((10:Nat):Int)))=true:=by simp;omega
 have hq:=qref_s (s:=nm) (by omega)
 have q2:=q16c (bl nm)
 rw [qw5] at q2
 refine q13y ?_
 by_cases kn:k=5∨k=9
 ·have g:=g5t_s k ts nm p tx n hl hz ih h2 hn hp ht (o:=testW k++([32]++quoL (bl nm))) (by simp only [List.length_append,List.length_cons,List.length_nil];omega)
  rcases kn with rfl|rfl
  ·simp only [q156,gL,dL,p0,q177]
   simp (disch:=omega) only [↓q3l,↓q8h,↓reduceIte,EC.decL_encL,EC.isL_encL,m0,m1,m2,m3,show ((5:Int)==5)=true from rfl,show (true==false)=false from rfl,hq,foldB,Option.bind_some,q2q,q2o,gm,List.length_append,List.length_cons,List.length_nil,Bool.false_eq_true,g]
   simp [pk0]
  ·simp only [q156,gL,dL,p0,q177]
   simp (disch:=omega) only [↓q3l,↓q8h,↓reduceIte,EC.decL_encL,EC.isL_encL,m0,m1,m2,m3,show ((9:Int)==5)=false from rfl,show ((9:Int)==9)=true from rfl,beq_self_eq_true,hq,foldB,Option.bind_some,q2q,q2o,gm,List.length_append,List.length_cons,List.length_nil,Bool.false_eq_true,g]
   simp [pk0]
 ·have n5:(k==5)=false:=by simp;omega
  have n9:(k==9)=false:=by simp;omega
  have g:=g5t_s k ts nm p tx n hl hz ih h2 hn hp ht (o:=testW k) (by omega)
  simp only [q156,gL,dL,p0,q177,↓q3l,↓q8h,↓reduceIte,EC.decL_encL,EC.isL_encL,m0,m1,m2,m3,n5,n9,beq_self_eq_true,Bool.false_eq_true,g,Option.bind_some,pk0,if_neg kn,List.append_nil]
end
theorem refT_s:∀ (e d:Nat),d+e=9→∀ t:S57,tfT t d=0→tzT t≤1000000000→rT t=some (baL (testL t))
 |0,d,hd,t,h,_=>by have:=(qtb h).d8;omega
 |e+1,d,hd,⟨k,ts,nm,p,tx,n⟩,h,hz=>by
  have F:=qtb h
  have S:=qtc h
  rw [tzT_eq] at hz
  have hz':tzL ts≤1000000000:=by simp only at hz;omega
  have ihs:∀ u∈ts,rT u=some (baL (testL u)):=fun u hu=>refT_s e (d+1) (by omega) u (F.sub u hu) (by have:=tz_mem hu;omega)
  have hlen:(testsL ts).length≤1000*tzL ts:=qul fun u hu=>que e (d+1) (by omega) u (F.sub u hu)
  have hk:=F.k
  have hp:=F.p3
  have hn:=F.nr
  have hk2:=F.k2
  simp only at hk hp hn hk2 S
  exact tt_s k ts nm p tx n (by omega) (by omega) ihs hk hk2 hn (fun h=>hp (by omega)) (by omega) (by omega)
end Go.Proofs.YtognhcibcocbkaaGreatDoor
