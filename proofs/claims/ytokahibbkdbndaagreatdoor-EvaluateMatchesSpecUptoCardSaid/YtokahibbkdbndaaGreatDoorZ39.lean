/- The reference's Executed is exL. -/
import Derived.Test.YtokahibbkdbndaaGreatDoorZ37
import Derived.Test.YtokahibbkdbndaaGreatDoorH8C
import Derived.Test.YtokahibbkdbndaaGreatDoorZ36
import Derived.Test.YtokahibbkdbndaaGreatDoorZ34
import Derived.Test.YtokahibbkdbndaaGreatDoorZ33
import Derived.Test.YtokahibbkdbndaaGreatDoorZ01
import Derived.Test.YtokahibbkdbndaaGreatDoorChecked
import Derived.ProofKit
import Derived.OpenShut
import Derived.JoinedCond
import Derived.Deep.Slices
import Derived.Deep.Fields
import Derived.Lib.SmallJoins
namespace Go.Proofs.YtokahibbkdbndaaGreatDoor
open Go.RowKit
theorem all_3a (l:List S45):(qay.encL l).all (fun el=>el.length==3)=true:=by
 simp only [List.all_eq_true,EC.encL,List.mem_map]
 rintro x ⟨a,_,rfl⟩
 rfl
theorem all_3k (l:List S62):(qb3.encL l).all (fun el=>el.length==3)=true:=by
 simp only [List.all_eq_true,EC.encL,List.mem_map]
 rintro x ⟨a,_,rfl⟩
 rfl
theorem q1g3 (l:List S45) (a n:Int) (t:ByteArray):qay.encL l++[[C.int IntKind.i64 a,C.str t,C.int IntKind.i64 n]]=qay.encL (l++[⟨a,t,n⟩]):=by simp [EC.encL];rfl
theorem q1g4 (l:List S62) (a:Int) (b:Bool) (t:ByteArray):qb3.encL l++[[C.int IntKind.i64 a,C.bool b,C.str t]]=qb3.encL (l++[⟨a,b,t⟩]):=by simp [EC.encL];rfl
theorem gdr {n:Nat} (h:n≤100000):decide ((n+n / 4+192)*32≤281474976710656)=true:=decide_eq_true (by omega)
theorem gdl {n:Nat} (h:n≤100000):decide (n≤9223372036854775807)=true:=decide_eq_true (by omega)
theorem q1go {r:S50} (h:rHead r=0) (hk:r.Kind=4):r.Text.size=0:=by
 unfold rHead at h
 split at h
 ·cases h
 split at h
 ·rename_i h1
  have:r.Kind=1:=by simpa using h1
  omega
 ·unfold pHead at h
  split at h
  ·cases h
  rename_i h0
  simp only [Bool.or_eq_true,not_or] at h0
  have h1:=h0.2
  rw [hk] at h1
  have h2:em r.Text=true:=by simpa using h1
  rw [qbh] at h2
  exact of_decide_eq_true h2
theorem qiw (mm:MM) (t:ByteArray) (h:t.size=0):exT mm t=noTx:=by
 have e:t=noTx:=ba_eq (by
  have:=q55 t
  rw [h] at this
  rw [List.eq_nil_of_length_eq_zero this];rfl)
 rw [e]
 exact qix mm noTx rfl (by show 0≤4000;omega)
theorem qiv (f:ByteArray) (rc:List S118) (fs:List S55) (sz:Int):∀ (q:Nat) (s:List S50),szL s=q→okvL s→∀ (i:Int) (m:MM) (a:List S45) (st:List S62),(exL f rc fs sz s i m a st).2.2.1.length≤a.length+q∧(exL f rc fs sz s i m a st).2.2.2.length≤st.length+q:=by
 intro q
 induction q using Nat.strongRecOn with
 |_ q ihq =>
  intro s
  induction s with
  |nil=>intro _ _ i m a st;rw [exL];exact ⟨by show a.length≤_;omega,by show st.length≤_;omega⟩
  |cons r l ihl =>
   intro hq hv i m a st
   have hsz:szR r+szL l=q:=by simpa [szL] using hq
   have hr:=q1hr r
   obtain ⟨hh,hvt,hve⟩:=okvR hv (List.mem_cons_self ..)
   have h1:(exR f rc fs sz r i m a st).2.2.1.length≤a.length+szR r∧(exR f rc fs sz r i m a st).2.2.2.length≤st.length+szR r:=by
    rw [exR_eq]
    split
    ·split
     ·have:=ihq (szL r.Then) (by omega) r.Then rfl hvt (i+1) (tsT f rc fs sz (tOf r) m).2 a (st++[⟨i,true,noTx⟩])
      rw [List.length_append,List.length_singleton] at this
      exact ⟨by omega,by omega⟩
     ·have:=ihq (szL r.Else) (by omega) r.Else rfl hve (i+1+szL r.Then) (tsT f rc fs sz (tOf r) m).2 a (st++[⟨i,false,noTx⟩])
      rw [List.length_append,List.length_singleton] at this
      exact ⟨by omega,by omega⟩
    ·split
     ·simp;omega
     ·split
      ·simp;omega
      ·simp;omega
   rw [exL]
   split
   ·have:=ihq (szL l) (by omega) l rfl (qvd hv) (i+szR r) (exR f rc fs sz r i m a st).2.1 (exR f rc fs sz r i m a st).2.2.1 (exR f rc fs sz r i m a st).2.2.2
    exact ⟨by omega,by omega⟩
   ·exact ⟨by omega,by omega⟩
section
variable (f:ByteArray) (rc:List S118) (e:ByteArray) (fs:List S55) (bd:List Int) (sz:Int)
def rExAt (s:List S50):Prop:=∀ (i:Int) (n:Nat) (ps:PS) (mm:MM) (a:List S45) (st:List S62),0≤i→i+szL s≤1000→n+szL s≤1000→a.length+szL s≤1000→st.length+szL s≤1000→RI n ps mm →
 ∃ ps',RI (n+szL s) ps' (exL f rc fs sz s i mm a st).2.1 ∧
  q10d (ps.map Prod.fst) (ps.map Prod.snd) a st false s i f rc e fs bd sz=some (rSt (exL f rc fs sz s i mm a st).2.2.1 (exL f rc fs sz s i mm a st).2.2.2 (!(exL f rc fs sz s i mm a st).1) ps')
theorem r_stop (s:List S50) (number:Int) (k:Nat) (hk:k≤s.length) (ps:PS) (a:List S45) (st:List S62):∃ x,q106 s number sz k (ps.map Prod.fst) (ps.map Prod.snd) a st true f rc e fs bd [] [] [] [] false=some x∧x.2.1=rSt a st true ps:=by
 refine ⟨((s,(number,(sz,((),((),((),(((k:Nat):Int),false))))))),(rSt a st true ps,((f,(rc,(e,(fs,bd)))),([],([],([],([],false))))))),q108 ?_,rfl⟩
 cases hc:decide (((k:Nat):Int)<((s.length:Nat):Int)) with
 |true=>simp only [q10c,z2r,z2s,z2t,z2u,z2v,z2w,z2x,z2y,z2z,z30,z31,gL,dL,lN,eC,wI,p0,aL,dQ,dM,uL,q7r,qn6,EC.decL_encL,EC.isL_encL,EC.encL_length,qqq,q4i,q4j,q4n,q4o,q4p,q4q,q4r,q4s,q4t,q4u,q4k,q4l,q4m,q3k,q3y,all_62,apd_62,hc,beq_self_eq_true,if_true,Bool.not_true,Bool.false_eq_true,if_false,rSt]
 |false=>simp only [q10c,z2r,z2s,z2t,z2u,z2v,z2w,z2x,z2y,z2z,z30,z31,gL,dL,lN,eC,wI,p0,aL,dQ,dM,uL,q7r,qn6,EC.decL_encL,EC.isL_encL,EC.encL_length,qqq,q4i,q4j,q4n,q4o,q4p,q4q,q4r,q4s,q4t,q4u,q4k,q4l,q4m,q3k,q3y,all_62,apd_62,hc,show (false==true)=false from rfl,Bool.false_eq_true,if_false,if_true,rSt]
theorem q1a2 (s:List S50) (hl:s.length≤big) (ho:okL s) (hv:okvL s) (hT:∀ r∈s,r.Kind=1→∀ a st,rTestAt f rc e fs bd sz a st false (tOf r)) (ihE:∀ r∈s,rExAt f rc e fs bd sz r.Then∧rExAt f rc e fs bd sz r.Else) :
  ∀ (q k:Nat) (i:Int) (n:Nat) (ps:PS) (mm:MM) (a:List S45) (st:List S62),k+q=s.length→0≤i→i+szL (s.drop k)≤1000→n+szL (s.drop k)≤1000→a.length+szL (s.drop k)≤1000→st.length+szL (s.drop k)≤1000→RI n ps mm →
  ∃ ps',RI (n+szL (s.drop k)) ps' (exL f rc fs sz (s.drop k) i mm a st).2.1∧∃ x,q106 s i sz k (ps.map Prod.fst) (ps.map Prod.snd) a st false f rc e fs bd [] [] [] [] false=some x ∧
   x.2.1=rSt (exL f rc fs sz (s.drop k) i mm a st).2.2.1 (exL f rc fs sz (s.drop k) i mm a st).2.2.2 (!(exL f rc fs sz (s.drop k) i mm a st).1) ps':=by
 intro q
 induction q with
 |zero =>
  intro k i n ps mm a st hk h0 h1 h2 h3 h4 hI
  have hk:k=s.length:=by omega
  subst hk
  have hc:decide (((s.length:Nat):Int)<((s.length:Nat):Int))=false:=decide_eq_false (by omega)
  rw [List.drop_length,exL]
  refine ⟨ps,hI.mono (by omega),((s,(i,(sz,((),((),((),(((s.length:Nat):Int),false))))))),(rSt a st false ps,((f,(rc,(e,(fs,bd)))),([],([],([],([],false))))))),q108 ?_,rfl⟩
  simp only [q10c,z2r,z2s,z2t,z2u,z2v,z2w,z2x,z2y,z2z,z30,z31,gL,dL,lN,eC,wI,p0,aL,dQ,dM,uL,q7r,qn6,EC.decL_encL,EC.isL_encL,EC.encL_length,qqq,q4i,q4j,q4n,q4o,q4p,q4q,q4r,q4s,q4t,q4u,q4k,q4l,q4m,q3k,q3y,all_62,apd_62,hc,show (false==true)=false from rfl,Bool.false_eq_true,if_false,if_true,rSt]
 |succ q ihm =>
  intro k i n ps mm a st hk h0 h1 h2 h3 h4 hI
  have hlt:k<s.length:=by omega
  have e1:decide ((k:Int)<(s.length:Int))=true:=decide_eq_true (by omega)
  have e0:decide ((0:Int)≤(k:Int))=true:=decide_eq_true (by omega)
  have e2:IntKind.i64.wrap ((k:Int)+1)=((k+1:Nat):Int):=q1m2 hlt (by unfold big at hl;omega)
  have hd2:decide (k<s.length)=true:=decide_eq_true hlt
  have hmem:s[k]∈s:=List.getElem_mem hlt
  have hdr:szL (s.drop k)=szR s[k]+szL (s.drop (k+1)):=by rw [qag hlt];rfl
  rw [hdr] at h1 h2 h3 h4
  have hsz:=q1hr s[k]
  obtain ⟨_,⟨ht1,ht2⟩,⟨he1,he2⟩,_⟩:=(qv6 s[k]).1 (qv5 ho hmem)
  obtain ⟨hh,hvt,hve⟩:=okvR hv hmem
  obtain ⟨hkk,htx,hvar,hnil⟩:=q1b9 hh
  obtain ⟨iT,iE⟩:=ihE s[k] hmem
  have hcT:=q9e s[k].Then ht1 ht2
  have hcE:=q9e s[k].Else he1 he2
  rw [q1m1 (by omega)] at hcT hcE
  have w1:IntKind.i64.wrap (i+1)=i+1:=q1m1 (by omega)
  have w2:IntKind.i64.wrap (i+1+(szL s[k].Then:Int))=i+1+szL s[k].Then:=q1m1 (by omega)
  have w3:IntKind.i64.wrap (1+(szL s[k].Then:Int))=1+szL s[k].Then:=q1m1 (by omega)
  have w4:IntKind.i64.wrap (1+(szL s[k].Then:Int)+(szL s[k].Else:Int))=1+szL s[k].Then+szL s[k].Else:=q1m1 (by omega)
  have w5:IntKind.i64.wrap (i+(1+(szL s[k].Then:Int)+(szL s[k].Else:Int)))=i+szR s[k]:=by rw [q1m1 (by omega)];omega
  have g1:=gdr (n:=a.length) (by omega)
  have g2:=gdl (n:=a.length) (by omega)
  have g3:=gdr (n:=a.length+1) (by omega)
  have g4:=gdl (n:=a.length+1) (by omega)
  have g5:=gdr (n:=st.length) (by omega)
  have g6:=gdl (n:=st.length) (by omega)
  have g7:=gdr (n:=st.length+1) (by omega)
  have g8:=gdl (n:=st.length+1) (by omega)
  have j0:∀ j:Int,s[k].Kind≠j→(s[k].Kind==j)=false:=fun j h=>by simpa using h
  have j1:∀ j:Int,s[k].Kind=j→(s[k].Kind==j)=true:=fun j h=>by simpa using h
  rw [hdr,qag hlt,exL]
  by_cases k1:s[k].Kind=1
  ·obtain ⟨ps1,r1,r2⟩:=hT s[k] hmem k1 a st n ps mm (by omega) hI
   have r2:q180 (ps.map Prod.fst) (ps.map Prod.snd) a st false s[k].Test_Kind s[k].Test_Tests s[k].Test_Name s[k].Test_Pattern s[k].Test_Text s[k].Test_N f rc e fs bd sz=_:=r2
   rw [exR_eq,if_pos k1]
   generalize tsT f rc fs sz (tOf s[k]) mm=u at r1 r2
   obtain ⟨ub,um⟩:=u
   cases ub with
   |true =>
    rw [if_pos rfl]
    obtain ⟨ps2,t1,t2⟩:=iT (i+1) n ps1 um a (st++[⟨i,true,noTx⟩]) (by omega) (by omega) (by omega) (by omega) (by simp;omega) r1
    have hinv:=qiv f rc fs sz _ s[k].Then rfl hvt (i+1) um a (st++[⟨i,true,noTx⟩])
    rw [List.length_append,List.length_singleton] at hinv
    generalize exL f rc fs sz s[k].Then (i+1) um a (st++[⟨i,true,noTx⟩])=v at t1 t2 hinv
    obtain ⟨vb,vm,va,vs⟩:=v
    simp only at t1 t2 hinv
    unfold noTx at t2
    cases vb with
    |false =>
     obtain ⟨x,x1,x2⟩:=r_stop f rc e fs bd sz s (i+szR s[k]) (k+1) (by omega) ps2 va vs
     simp only [Bool.false_eq_true,if_false]
     refine ⟨ps2,t1.mono (by omega),x,q108 ?_,x2⟩
     simp only [q10c,z2r,z2s,z2t,z2u,z2v,z2w,z2x,z2y,z2z,z30,z31,gL,dL,lN,eC,wI,p0,aL,dQ,dM,uL,q7r,qn6,all_3k,q1g4,EC.decL_encL,EC.isL_encL,EC.encL_length,qqq,q4i,q4j,q4n,q4o,q4p,q4q,q4r,q4s,q4t,q4u,q4k,q4l,q4m,q3k,q3y,e1,e0,if_true,beq_self_eq_true,Bool.not_false,Int.toNat_natCast,hd2,Bool.and_self,qn9 hlt,j1 1 k1,j0 2 (by omega),j0 3 (by omega),j0 4 (by omega),r2,rSt,Option.bind_some,List.all_cons,List.all_nil,List.length_cons,List.length_nil,Nat.zero_add,g5,g6,g7,g8,w1,t2,hcT,hcE,w3,w4,w5,e2,Bool.false_eq_true,if_false]
     exact x1
    |true =>
     rw [if_pos rfl]
     obtain ⟨ps3,i1,x,x1,x2⟩:=ihm (k+1) (i+szR s[k]) (n+szL s[k].Then) ps2 vm va vs (by omega) (by omega) (by omega) (by omega) (by omega) (by omega) t1
     refine ⟨ps3,i1.mono (by omega),x,q108 ?_,x2⟩
     simp only [q10c,z2r,z2s,z2t,z2u,z2v,z2w,z2x,z2y,z2z,z30,z31,gL,dL,lN,eC,wI,p0,aL,dQ,dM,uL,q7r,qn6,all_3k,q1g4,EC.decL_encL,EC.isL_encL,EC.encL_length,qqq,q4i,q4j,q4n,q4o,q4p,q4q,q4r,q4s,q4t,q4u,q4k,q4l,q4m,q3k,q3y,e1,e0,if_true,beq_self_eq_true,Bool.not_false,Bool.not_true,Int.toNat_natCast,hd2,Bool.and_self,qn9 hlt,j1 1 k1,j0 2 (by omega),j0 3 (by omega),j0 4 (by omega),r2,rSt,Option.bind_some,List.all_cons,List.all_nil,List.length_cons,List.length_nil,Nat.zero_add,g5,g6,g7,g8,w1,t2,hcT,hcE,w3,w4,w5,e2,Bool.false_eq_true,if_false]
     exact x1
   |false =>
    simp only [Bool.false_eq_true,if_false]
    obtain ⟨ps2,t1,t2⟩:=iE (i+1+szL s[k].Then) n ps1 um a (st++[⟨i,false,noTx⟩]) (by omega) (by omega) (by omega) (by omega) (by simp;omega) r1
    have hinv:=qiv f rc fs sz _ s[k].Else rfl hve (i+1+szL s[k].Then) um a (st++[⟨i,false,noTx⟩])
    rw [List.length_append,List.length_singleton] at hinv
    generalize exL f rc fs sz s[k].Else (i+1+szL s[k].Then) um a (st++[⟨i,false,noTx⟩])=v at t1 t2 hinv
    obtain ⟨vb,vm,va,vs⟩:=v
    simp only at t1 t2 hinv
    unfold noTx at t2
    cases vb with
    |false =>
     obtain ⟨x,x1,x2⟩:=r_stop f rc e fs bd sz s (i+szR s[k]) (k+1) (by omega) ps2 va vs
     simp only [Bool.false_eq_true,if_false]
     refine ⟨ps2,t1.mono (by omega),x,q108 ?_,x2⟩
     simp only [q10c,z2r,z2s,z2t,z2u,z2v,z2w,z2x,z2y,z2z,z30,z31,gL,dL,lN,eC,wI,p0,aL,dQ,dM,uL,q7r,qn6,all_3k,q1g4,EC.decL_encL,EC.isL_encL,EC.encL_length,qqq,q4i,q4j,q4n,q4o,q4p,q4q,q4r,q4s,q4t,q4u,q4k,q4l,q4m,q3k,q3y,e1,e0,if_true,beq_self_eq_true,Bool.not_false,Int.toNat_natCast,hd2,Bool.and_self,qn9 hlt,j1 1 k1,j0 2 (by omega),j0 3 (by omega),j0 4 (by omega),r2,rSt,Option.bind_some,List.all_cons,List.all_nil,List.length_cons,List.length_nil,Nat.zero_add,g5,g6,g7,g8,w1,w2,t2,hcT,hcE,w3,w4,w5,e2,Bool.false_eq_true,if_false]
     exact x1
    |true =>
     rw [if_pos rfl]
     obtain ⟨ps3,i1,x,x1,x2⟩:=ihm (k+1) (i+szR s[k]) (n+szL s[k].Else) ps2 vm va vs (by omega) (by omega) (by omega) (by omega) (by omega) (by omega) t1
     refine ⟨ps3,i1.mono (by omega),x,q108 ?_,x2⟩
     simp only [q10c,z2r,z2s,z2t,z2u,z2v,z2w,z2x,z2y,z2z,z30,z31,gL,dL,lN,eC,wI,p0,aL,dQ,dM,uL,q7r,qn6,all_3k,q1g4,EC.decL_encL,EC.isL_encL,EC.encL_length,qqq,q4i,q4j,q4n,q4o,q4p,q4q,q4r,q4s,q4t,q4u,q4k,q4l,q4m,q3k,q3y,e1,e0,if_true,beq_self_eq_true,Bool.not_false,Bool.not_true,Int.toNat_natCast,hd2,Bool.and_self,qn9 hlt,j1 1 k1,j0 2 (by omega),j0 3 (by omega),j0 4 (by omega),r2,rSt,Option.bind_some,List.all_cons,List.all_nil,List.length_cons,List.length_nil,Nat.zero_add,g5,g6,g7,g8,w1,w2,t2,hcT,hcE,w3,w4,w5,e2,Bool.false_eq_true,if_false]
     exact x1
  ·obtain ⟨n1,n2⟩:=hnil k1
   have htx':=htx k1
   have hR1:szR s[k]=1:=by rw [hsz,n1,n2];rfl
   have hex:=qj7 a st false ps s[k].Text hI (by omega) (by omega)
   have hxs:=qiz mm s[k].Text
   rw [exR_eq,if_neg k1]
   by_cases k2:s[k].Kind=2
   ·rw [if_pos k2,if_pos rfl]
    obtain ⟨ps3,i1,x,x1,x2⟩:=ihm (k+1) (i+szR s[k]) n ps mm (a++[⟨s[k].Act,exT mm s[k].Text,s[k].N⟩]) (st++[⟨i,false,exT mm s[k].Text⟩]) (by omega) (by omega) (by omega) (by omega) (by simp;omega) (by simp;omega) hI
    refine ⟨ps3,i1.mono (by omega),x,q108 ?_,x2⟩
    simp only [q10c,z2r,z2s,z2t,z2u,z2v,z2w,z2x,z2y,z2z,z30,z31,gL,dL,lN,eC,wI,p0,aL,dQ,dM,uL,q7r,qn6,all_3k,q1g4,all_3a,q1g3,EC.decL_encL,EC.isL_encL,EC.encL_length,qqq,q4i,q4j,q4n,q4o,q4p,q4q,q4r,q4s,q4t,q4u,q4k,q4l,q4m,e1,e0,if_true,beq_self_eq_true,Bool.not_false,Int.toNat_natCast,hd2,Bool.and_self,qn9 hlt,j0 1 k1,j1 2 k2,j0 3 (by omega),j0 4 (by omega),hex,Option.bind_some,List.all_cons,List.all_nil,List.length_cons,List.length_nil,Nat.zero_add,g1,g2,g3,g4,g5,g6,g7,g8,hcT,hcE,w3,w4,w5,e2,Bool.false_eq_true,if_false]
    exact x1
   ·rw [if_neg k2]
    by_cases k3:s[k].Kind=3
    ·have hvb:=hvar k3
     have hne:s[k].Name.size≠0:=by
      unfold varB at hvb
      simp at hvb
      omega
     rw [if_pos k3,if_pos rfl]
     have hw:=with_s a (st++[⟨i,false,exT mm s[k].Text⟩]) false ps (by have:=hI.all;omega) s[k].Name (exT mm s[k].Text)
     obtain ⟨ps3,i1,x,x1,x2⟩:=ihm (k+1) (i+szR s[k]) (n+1) (ps++[(s[k].Name,exT mm s[k].Text)]) (putM mm s[k].Name (exT mm s[k].Text)) a (st++[⟨i,false,exT mm s[k].Text⟩]) (by omega) (by omega) (by omega) (by omega) (by omega) (by simp;omega) (hI.put hne (by omega))
     refine ⟨ps3,i1.mono (by omega),x,q108 ?_,x2⟩
     simp only [q10c,z2r,z2s,z2t,z2u,z2v,z2w,z2x,z2y,z2z,z30,z31,gL,dL,lN,eC,wI,p0,aL,dQ,dM,uL,q7r,qn6,all_3k,q1g4,EC.decL_encL,EC.isL_encL,EC.encL_length,qqq,q4i,q4j,q4n,q4o,q4p,q4q,q4r,q4s,q4t,q4u,q4k,q4l,q4m,q3k,q3y,e1,e0,if_true,beq_self_eq_true,Bool.not_false,Int.toNat_natCast,hd2,Bool.and_self,qn9 hlt,j0 1 k1,j0 2 k2,j1 3 k3,j0 4 (by omega),hex,hw,Option.bind_some,List.all_cons,List.all_nil,List.length_cons,List.length_nil,Nat.zero_add,g5,g6,g7,g8,hcT,hcE,w3,w4,w5,e2,Bool.false_eq_true,if_false]
     exact x1
    ·have k4:s[k].Kind=4:=by omega
     rw [if_neg k3]
     rw [qiw mm s[k].Text (q1go hh k4)] at hex
     obtain ⟨x,x1,x2⟩:=r_stop f rc e fs bd sz s (i+szR s[k]) (k+1) (by omega) ps a (st++[⟨i,false,noTx⟩])
     simp only [Bool.false_eq_true,if_false]
     refine ⟨ps,hI.mono (by omega),x,q108 ?_,x2⟩
     simp only [q10c,z2r,z2s,z2t,z2u,z2v,z2w,z2x,z2y,z2z,z30,z31,gL,dL,lN,eC,wI,p0,aL,dQ,dM,uL,q7r,qn6,all_3k,q1g4,EC.decL_encL,EC.isL_encL,EC.encL_length,qqq,q4i,q4j,q4n,q4o,q4p,q4q,q4r,q4s,q4t,q4u,q4k,q4l,q4m,q3k,q3y,e1,e0,if_true,beq_self_eq_true,Bool.not_false,Int.toNat_natCast,hd2,Bool.and_self,qn9 hlt,j0 1 k1,j0 2 k2,j0 3 k3,j1 4 k4,hex,Option.bind_some,List.all_cons,List.all_nil,List.length_cons,List.length_nil,Nat.zero_add,g5,g6,g7,g8,hcT,hcE,w3,w4,w5,e2,Bool.false_eq_true,if_false]
     exact x1
theorem r_ex_s (hH:HdrOk fs) (hE:envB f rc):∀ (q:Nat) (s:List S50),szL s=q→s.length≤big→okL s→okvL s→rExAt f rc e fs bd sz s:=by
 intro q
 induction q using Nat.strongRecOn with
 |_ q ihq =>
  intro s hq hl ho hv i n ps mm a st h0 h1 h2 h3 h4 hI
  obtain ⟨ps',i1,x,x1,x2⟩:=q1a2 f rc e fs bd sz s hl ho hv (fun r hr k1 a st=>by
   have hh:=(okvR hv hr).1
   exact q1a3 f rc e fs bd sz a st false hH hE _ (tOf r) rfl (((qv6 r).1 (qv5 ho hr)).1) (qve hh (by simpa using k1))) (fun r hr=>by
   have ho':=(qv6 r).1 (qv5 ho hr)
   have hv':=okvR hv hr
   exact ⟨ihq _ (hq ▸ q1ht hr) r.Then rfl ho'.2.1.1 ho'.2.1.2 hv'.2.1,ihq _ (hq ▸ q1hs hr) r.Else rfl ho'.2.2.1.1 ho'.2.2.1.2 hv'.2.2⟩) s.length 0 i n ps mm a st (by omega) h0 (by rw [List.drop_zero];exact h1) (by rw [List.drop_zero];exact h2) (by rw [List.drop_zero];exact h3) (by rw [List.drop_zero];exact h4) hI
  rw [List.drop_zero] at i1 x2
  rw [Int.natCast_zero] at x1
  refine ⟨ps',i1,?_⟩
  rw [←x2]
  refine q105 ?_
  simp only [q10e,gL,dL,qn6,qg,EC.decL_encL,EC.isL_encL,if_true,x1,Option.bind_some]
end
end Go.Proofs.YtokahibbkdbndaaGreatDoor
namespace Go.Proofs.YtokahibbkdbndaaGreatDoor
open Go.RowKit
theorem q1mw (l:List S45) (hl:l.length≤10000):∀ m k:Nat,k+m=l.length→q1np l k=some (if ((l.drop k).any fun a=>dB a.Kind)=true then .inl (l,()) else .inr ((l,(((l.length:Nat):Int),false)),())):=by
 intro m
 induction m with
 |zero =>
  intro k hk
  have hk:k=l.length:=by omega
  subst hk
  refine q1nr ?_
  rw [List.drop_length]
  simp only [q1nw,gL,dL,lN,eC,wI,p0,q7r,qn6,EC.decL_encL,EC.isL_encL,EC.encL_length,q1my,q48]
  simp
 |succ m ih =>
  intro k hk
  have hlt:k<l.length:=by omega
  have e1:decide ((k:Int)<(l.length:Int))=true:=by simp;omega
  have e0:decide ((0:Int)≤(k:Int))=true:=by simp
  have e2:IntKind.i64.wrap ((k:Int)+1)=((k+1:Nat):Int):=q1m2 hlt (by omega)
  have hd2:decide (k<l.length)=true:=by simp [hlt]
  refine q1nr ?_
  rw [qag hlt,List.any_cons]
  cases hb:dB l[k].Kind with
  |true=>simp only [q1nw,gL,dL,lN,eC,wI,p0,q7r,qn6,EC.decL_encL,EC.isL_encL,EC.encL_length,q1my,q48,e1,e0,if_true,Int.toNat_natCast,hd2,Bool.and_self,qn9 hlt,q1mt,hb,Option.bind_some,Bool.true_or]
  |false =>
   simp only [q1nw,gL,dL,lN,eC,wI,p0,q7r,qn6,EC.decL_encL,EC.isL_encL,EC.encL_length,q1my,q48,e1,e0,if_true,Int.toNat_natCast,hd2,Bool.and_self,qn9 hlt,q1mt,hb,Option.bind_some,Bool.false_eq_true,if_false,Bool.false_or,e2]
   exact ih (k+1) (by omega)
theorem q1mx (l:List S45) (hl:l.length≤10000):q1nx l=some (finA l):=by
 have h:=q1mw l hl l.length 0 (by omega)
 rw [Int.natCast_zero,List.drop_zero] at h
 have g1:decide ((l.length+l.length / 4+192)*32≤281474976710656)=true:=decide_eq_true (by omega)
 have g2:decide (l.length≤9223372036854775807)=true:=decide_eq_true (by omega)
 have g3:decide ((l.length+1+(l.length+1) / 4+192)*32≤281474976710656)=true:=decide_eq_true (by omega)
 have g4:decide (l.length+1≤9223372036854775807)=true:=decide_eq_true (by omega)
 refine q1no ?_
 unfold finA
 simp only [q1ny,gL,dL,lN,aL,dQ,dM,qn6,EC.decL_encL,EC.isL_encL,EC.encL_length,q3k,q3y,h,Option.bind_some]
 cases hb:(l.any fun a=>dB a.Kind) with
 |true=>simp only [if_true,Sum.elim_inl]
 |false =>
  simp only [Bool.false_eq_true,if_false,if_true,Sum.elim_inr,List.all_cons,List.all_nil,List.length_cons,List.length_nil,Nat.zero_add,beq_self_eq_true,Bool.and_self,g1,g2,g3,g4]
  rfl
theorem q1eh {s:List S50} {f:ByteArray} {rc:List S118} {bd:List Int} (h:MOk s f rc bd) (e:ByteArray) (fs:List S55) :
  ∃ z,qy1 s f rc e fs bd=some (runF s f rc e fs bd,z)∧((runF s f rc e fs bd).1=0→z=(((msgF fs bd).1.1:Nat):Int)):=by
 have hv:=q1ba s h.len h.ok
 obtain ⟨he1,he2⟩:=envF_s h e
 obtain ⟨hm1,hm2,hm3⟩:=msgF_s fs h.bl
 by_cases h1:(scriptF s).1=0
 ·have c1:((scriptF s).1 != 0)=false:=by simpa using h1
  by_cases h2:(envF f rc e).1=0
  ·have c2:((envF f rc e).1 != 0)=false:=by simpa using h2
   by_cases h3:(msgF fs bd).1.2.1=0
   ·have c3:((msgF fs bd).1.2.1 != 0)=false:=by simpa using h3
    have hF:runF s f rc e fs bd=(0,0):=by unfold runF;rw [if_neg (by simp [h1]),if_neg (by simp [h2]),if_neg (by simp [h3])]
    refine ⟨(((msgF fs bd).1.1:Nat):Int),qy0 ?_,fun _=>rfl⟩
    rw [hF]
    simp only [qy2,gL,dL,q7r,qn6,EC.decL_encL,EC.isL_encL,if_true,hv,Option.bind_some,c1,Bool.false_eq_true,if_false,he1,c2,hm1,c3]
   ·have c3:((msgF fs bd).1.2.1 != 0)=true:=by simpa using h3
    have hF:runF s f rc e fs bd=((msgF fs bd).1.2.1,-2):=by unfold runF;rw [if_neg (by simp [h1]),if_neg (by simp [h2]),if_pos h3]
    refine ⟨0,qy0 ?_,fun h0=>by rw [hF] at h0;exact absurd h0 h3⟩
    rw [hF]
    simp only [qy2,gL,dL,q7r,qn6,EC.decL_encL,EC.isL_encL,if_true,hv,Option.bind_some,c1,Bool.false_eq_true,if_false,he1,c2,hm1,c3,at_s]
  ·have c2:((envF f rc e).1 != 0)=true:=by simpa using h2
   have hF:runF s f rc e fs bd=((envF f rc e).1,-3):=by unfold runF;rw [if_neg (by simp [h1]),if_pos h2]
   refine ⟨0,qy0 ?_,fun h0=>by rw [hF] at h0;exact absurd h0 h2⟩
   rw [hF]
   simp only [qy2,gL,dL,q7r,qn6,EC.decL_encL,EC.isL_encL,if_true,hv,Option.bind_some,c1,Bool.false_eq_true,if_false,he1,c2,at_s]
 ·have c1:((scriptF s).1 != 0)=true:=by simpa using h1
  have hF:runF s f rc e fs bd=scriptF s:=by unfold runF;rw [if_pos h1]
  refine ⟨0,qy0 ?_,fun h0=>by rw [hF] at h0;exact absurd h0 h1⟩
  rw [hF]
  simp only [qy2,gL,dL,q7r,qn6,EC.decL_encL,EC.isL_encL,if_true,hv,Option.bind_some,c1]
theorem q1ap {s:List S50} {f:ByteArray} {rc:List S118} {bd:List Int} (h:MOk s f rc bd) (e:ByteArray) (fs:List S55) (hF:(runF s f rc e fs bd).1=0) :
  ∃ ps,q10d [] [] [] [] false s 0 f rc e fs bd (((msgF fs bd).1.1:Nat):Int)=some (rSt (theRun s f rc fs bd).2.2.1 (theRun s f rc fs bd).2.2.2 (!(theRun s f rc fs bd).1) ps)∧(theRun s f rc fs bd).2.2.1.length≤100:=by
 obtain ⟨g1,g2,g3⟩:=runF_0 hF
 obtain ⟨he1,he2⟩:=envF_s h e
 obtain ⟨hm1,hm2,hm3⟩:=msgF_s fs h.bl
 obtain ⟨hv,h100⟩:=val_ok g1
 obtain ⟨ps,_,r2⟩:=r_ex_s f rc e fs bd (((msgF fs bd).1.1:Nat):Int) (hm2 g3) (he2 g2) _ s rfl h.len h.ok hv 0 0 [] [] [] [] (by omega) (by omega) (by omega) (by simp;omega) (by simp;omega) RI.nil
 refine ⟨ps,r2,?_⟩
 obtain ⟨_,hal,_⟩:=q1kt f rc fs bd g1
 simp only [List.length_nil,Nat.zero_add] at hal
 omega
theorem specLaw {s:List S50} {f:ByteArray} {rc:List S118} {bd:List Int} (h:MOk s f rc bd) (e:ByteArray) (fs:List S55) :
  q1n7 s f rc e fs bd=some true:=by
 have hx:=run_s h e fs
 obtain ⟨z,hz,hz0⟩:=q1eh h e fs
 refine q1n6 ?_
 simp only [q1n8,gL,dL,q7r,qn6,EC.decL_encL,EC.isL_encL,if_true,hx,hz,Option.bind_some]
 by_cases hF:(runF s f rc e fs bd).1=0
 ·have c1:((runF s f rc e fs bd).1 != 0)=false:=by simpa using hF
  have c2:((runF s f rc e fs bd).1==0)=true:=by simpa using hF
  obtain ⟨ps,r1,r2⟩:=q1ap h e fs hF
  have hA:runA s f rc e fs bd=finA (theRun s f rc fs bd).2.2.1:=by unfold runA;rw [if_neg (by simp [hF])]
  have hev:q1nj s f rc e fs bd (((msgF fs bd).1.1:Nat):Int)=some (runA s f rc e fs bd):=by
   refine q1ni ?_
   rw [hA]
   simp only [q1nk,gL,dL,qn6,qg,EC.decL_encL,EC.isL_encL,if_true,r1,rSt,Option.bind_some,q1mx _ (show (theRun s f rc fs bd).2.2.1.length≤10000 by omega)]
  rw [hz0 hF]
  simp only [c1,c2,Bool.false_eq_true,if_false,beq_self_eq_true,if_true,hev,Option.bind_some,q1fl _ (Nat.le_trans runA_len' (by omega))]
 ·have c1:((runF s f rc e fs bd).1 != 0)=true:=by simpa using hF
  have hA:runA s f rc e fs bd=[]:=by unfold runA;rw [if_pos hF]
  rw [hA]
  simp only [c1,if_true,beq_self_eq_true,Bool.and_self,List.length_nil,Int.natCast_zero]
end Go.Proofs.YtokahibbkdbndaaGreatDoor
namespace Go.Proofs.YtokahibbkdbndaaGreatDoor
open Go.ChangeShapes Go.WideShapes Go.ChangeAt Go.RowKit Go.Deep
theorem qp:ownKnob Tryz.prog.godebug=none:=by kernel_rfl
theorem qo:laidOutB Tryz.prog=true:=by kernel_rfl
section
variable {H:Type} {enc:TypeId×Value→H} {P:Program}
theorem q1l0 (hl:laidOutB P=true) {W W':World} (hb:Bel W W'):∀ {ts:List TypeId} {vs:List Value} {ds:List (DataW H)} {ps:List MemPlace},ts.all (fun t=>P.readableRec t&&decide (t<P.types.size))=true →
  DataW.TrodAll enc P W 0 (fun _=>true) true ts vs ds ps→(∀ x∈ps,x.block<W.heap.size)→DataW.TrodAll enc P W' 0 (fun b=>decide (b<W.heap.size)) true ts vs ds ps
 |[],[],[],_,_,h,_=>h
 |[],[],_::_,_,_,h,_=>h.elim
 |[],_::_,_,_,_,h,_=>h.elim
 |_::_,[],_,_,_,h,_=>h.elim
 |_::_,_::_,[],_,_,h,_=>h.elim
 |t::ts,v::vs,d::ds,ps,hr,h,hlt=>by
  obtain ⟨p,q,h1,h2,rfl⟩:=h
  simp only [List.all_cons,Bool.and_eq_true,decide_eq_true_eq] at hr
  exact ⟨p,q,Below.trod hl hr.1.1 hr.1.2 h1 hb (fun x hx=>hlt x (List.mem_append_left _ hx)),q1l0 hl hb hr.2 h2 (fun x hx=>hlt x (List.mem_append_right _ hx)),rfl⟩
theorem qrr {fn:Func} {s:ChangeSpec} {W W':World} {args:Array Value} {ds gs:List (DataW H)} {before:List MemPlace} {tb:TypeId} (hl:laidOutB P=true)
  (hr:fn.params.toList.all (fun t=>P.readableRec t&&decide (t<P.types.size))=true) (hrt:fn.resultTypes=#[tb]) (htb:P.underlying tb=some .bool) (hvars:s.vars=[])
  (hfn:s.fn H ds={ results:=[.lit (.bool true)],args:=ds })
  (hW:DataW.Whole enc P fn.params.toList s.vars false W args.toList ds gs before) (hb:Bel W W'):s.post enc P fn false true false false W args (.bool true) W':=by
 have hW':=hW
 have hlt:∀ x∈before,x.block<W.heap.size:=fun x hx=>hW.lt x hx
 obtain ⟨p,q,hA,hV,rfl,hfz,hnd⟩:=hW
 rw [hvars] at hV
 obtain ⟨rfl,rfl⟩:=trodVars_none hV
 have e:s.fn H (ds++[])={ results:=[.lit (.bool true)],args:=ds }:=by rw [List.append_nil];exact hfn
 refine ⟨ds,[],p++[],[],p,[],hW',?_,?_,?_,hb.frame _,fun h=>by cases h⟩
 ·rw [e,hrt]
  exact trodAll_mk1 (shut_bool htb true)
 ·rw [e]
  exact q1l0 hl hb hr hA (fun x hx=>hlt x (by simpa using hx))
 ·rw [e,hvars]
  rfl
end
end Go.Proofs.YtokahibbkdbndaaGreatDoor
