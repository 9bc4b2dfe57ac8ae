/- What is read has bounded lists. -/
import Derived.Test.YtognhcibcocbkaaGreatDoorZ28
import Derived.Test.YtognhcibcocbkaaGreatDoorB6
import Derived.Test.YtognhcibcocbkaaGreatDoorZ27
import Derived.Test.YtognhcibcocbkaaGreatDoorZ25
import Derived.Test.YtognhcibcocbkaaGreatDoorZ01
import Derived.Test.YtognhcibcocbkaaGreatDoorChecked
import Derived.ProofKit
import Derived.OpenShut
import Derived.JoinedCond
import Derived.Deep.Slices
import Derived.Deep.Fields
import Derived.Lib.SmallJoins
import Derived.Test.YtognhcibcocbkaaGreatDoorRows
namespace Go.Proofs.YtognhcibcocbkaaGreatDoor
open Go.RowKit
def Lok (M:List (Nat×List UInt8)):Prop:=(∀ e∈M,e.2.length≤4000)∧M.length≤5000
theorem Lok.app {a b:List (Nat×List UInt8)} (h:Lok (a++b)):Lok b:=⟨fun e he=>h.1 e (List.mem_append_right _ he),by have:=h.2;rw [List.length_append] at this;omega⟩
theorem Lok.cons {a:Nat×List UInt8} {b:List (Nat×List UInt8)} (h:Lok (a::b)):Lok b:=Lok.app (a:=[a]) h
theorem qdq {s:List UInt8} {L L':List Tok} (h:sNeed s L=.inr L') (hL:Lok (L.map er)):Lok (L'.map er):=by rw [q77 h] at hL;exact hL.cons
theorem qds {k:Nat} {L L':List Tok} {s:List UInt8} (h:sTake k L=.inr (s,L')) (hL:Lok (L.map er)):Lok (L'.map er)∧s.length≤4000:=by
 rw [f_take h] at hL
 exact ⟨hL.cons,hL.1 (k,s) (by simp)⟩
theorem ok_lt {f d:Nat} {L L':List Tok} {t:S57} (h:sTest f d L=.inr (t,L')) (hL:Lok (L.map er)):Lok (L'.map er):=by
 obtain ⟨C,_,h2,_⟩:=(f_test f).1 d L t L' h
 rw [h2] at hL
 exact hL.app
theorem tl_ok {L:List Tok} {k:Nat} {w:List UInt8} (h:isT k w L=true) (hL:Lok (L.map er)):Lok (L.tail.map er):=by rw [qag h] at hL;exact hL.cons
theorem qdt:∀ f,(∀ d L t L',sTest f d L=.inr (t,L')→Lok (L.map er)→okT t)∧(∀ d L ts L',sTests f d L=.inr (ts,L')→Lok (L.map er)→okTL ts∧ts.length≤L.length)
 |0=>⟨fun d L t L' h=>by simp [sTest] at h,fun d L t L' h=>by simp [sTests] at h⟩
 |f+1=>by
  obtain ⟨ih,ihs⟩:=qdt f
  have pl:∀ (k:Nat) (nm:List UInt8) (p:Nat) (tx:List UInt8) (n:Nat),okT (tst k [] nm p tx n):=fun k nm p tx n=>(okT_eq _).2 ⟨Nat.zero_le _,trivial⟩
  refine ⟨fun d L t L' h hL=>?_,fun d L ts L' h hL=>?_⟩
  ·cases L with
   |nil=>simp [sTest] at h
   |cons x r =>
    have hr:Lok (r.map er):=Lok.cons hL
    simp only [sTest] at h
    split at h
    ·cases h
    have lst:∀ k:Nat,(thn (sNeed [40] r) fun r1=>thn (sTests f (d+1) r1) fun y=>thn (sNeed [41] y.2) fun r2=>Sum.inr (tst k y.1 [] 0 [] 0,r2))=.inr (t,L')→okT t:=fun k h=>by
     obtain ⟨r1,h1,h⟩:=q158 h
     obtain ⟨y,h2,h⟩:=q158 h
     obtain ⟨r2,h3,h⟩:=q158 h
     injection h with h
     injection h with h _
     subst h
     have:=ihs (d+1) r1 y.1 y.2 h2 (qdq h1 hr)
     have hl:=(qdq h1 hr).2
     rw [List.length_map] at hl
     exact (okT_eq _).2 ⟨by show y.1.length≤big;unfold big;omega,this.1⟩
    split at h
    ·cases h
    ·injection h with h;injection h with h _;subst h;exact pl _ _ _ _ _
    ·obtain ⟨y,h1,h⟩:=q158 h
     injection h with h;injection h with h _;subst h
     have:=ih (d+1) r y.1 y.2 h1 hr
     exact (okT_eq _).2 ⟨by show [y.1].length≤big;unfold big;simp,this,trivial⟩
    ·exact lst 3 h
    ·exact lst 4 h
    ·obtain ⟨y,h1,h⟩:=q158 h
     obtain ⟨z,h2,h⟩:=q158 h
     injection h with h;injection h with h _;subst h;exact pl _ _ _ _ _
    ·obtain ⟨y,h1,h⟩:=q158 h
     injection h with h;injection h with h _;subst h;exact pl _ _ _ _ _
    ·obtain ⟨y,h1,h⟩:=q158 h
     injection h with h;injection h with h _;subst h;exact pl _ _ _ _ _
    ·obtain ⟨y,h1,h⟩:=q158 h
     injection h with h;injection h with h _;subst h;exact pl _ _ _ _ _
    ·obtain ⟨y,h1,h⟩:=q158 h
     injection h with h;injection h with h _;subst h;exact pl _ _ _ _ _
  ·simp only [sTests] at h
   obtain ⟨y,h1,h⟩:=q158 h
   have k1:=ih d L y.1 y.2 h1 hL
   have k2:=qbw h1
   split at h
   ·rename_i hc
    obtain ⟨z,h2,h⟩:=q158 h
    injection h with h;injection h with h _;subst h
    have:=ihs d y.2.tail z.1 z.2 h2 (tl_ok hc (ok_lt h1 hL))
    have hl:y.2.tail.length≤y.2.length:=by simp
    exact ⟨⟨k1,this.1⟩,by simp only [List.length_cons];omega⟩
   ·injection h with h;injection h with h _;subst h
    exact ⟨⟨k1,trivial⟩,by simp only [List.length_cons,List.length_nil];omega⟩
theorem qdr:∀ f,(∀ d m L r L' m',sRule f d m L=.inr (r,L',m')→Lok (L.map er)→okR r)∧(∀ d m L l L' m',sBlock f d m L=.inr (l,L',m')→Lok (L.map er)→okL l∧l.length≤5000) ∧
  (∀ d m L l L' m',sRules f d m L=.inr (l,L',m')→Lok (L.map er)→okL l∧l.length≤L.length)
 |0=>⟨fun d m L t L' m' h=>by simp [sRule] at h,fun d m L t L' m' h=>by simp [sBlock] at h,fun d m L t L' m' h=>by simp [sRules] at h⟩
 |f+1=>by
  obtain ⟨ih,ihb,ihs⟩:=qdr f
  have pl:∀ (k:Nat) (act:Int) (nm tx:List UInt8) (n:Nat),nm.length≤4000→okR ⟨k,t0.Kind,t0.Tests,t0.Name,t0.Pattern,t0.Text,t0.N,[],[],act,baL nm,baL tx,n⟩:=fun k act nm tx n hn =>
   (qdo _).2 ⟨⟨Nat.zero_le _,trivial⟩,⟨Nat.zero_le _,trivial⟩,⟨Nat.zero_le _,trivial⟩,by show (baL nm).size≤big;rw [q30];unfold big;omega⟩
  refine ⟨fun d m L r L' m' h hL=>?_,fun d m L l L' m' h hL=>?_,fun d m L l L' m' h hL=>?_⟩
  ·cases L with
   |nil=>simp [sRule] at h
   |cons x r0 =>
    have hr:Lok (r0.map er):=Lok.cons hL
    simp only [sRule] at h
    split at h
    ·cases h
    split at h
    ·obtain ⟨t,h1,h⟩:=q158 h
     obtain ⟨b,h2,h⟩:=q158 h
     have k1:=(qdt f).1 1 r0 t.1 t.2 h1 hr
     have k2:=ihb (d+1) (m+1) t.2 b.1 b.2.1 b.2.2 h2 (ok_lt h1 hr)
     have hb:Lok (b.2.1.map er):=by
      obtain ⟨_,C,q,_⟩:=(q78 f).2.1 (d+1) (m+1) t.2 b.1 b.2.1 b.2.2 h2
      have:=ok_lt h1 hr
      rw [q] at this
      exact this.app
     obtain ⟨o1,o2⟩:=(okT_eq _).1 k1
     split at h
     ·rename_i hc
      obtain ⟨e,h3,h⟩:=q158 h
      injection h with h;injection h with h _;subst h
      have k3:=ihb (d+1) b.2.2 b.2.1.tail e.1 e.2.1 e.2.2 h3 (tl_ok hc hb)
      exact (qdo _).2 ⟨⟨o1,o2⟩,⟨by show b.1.length≤big;unfold big;omega,k2.1⟩,⟨by show e.1.length≤big;unfold big;omega,k3.1⟩,Nat.zero_le _⟩
     ·injection h with h;injection h with h _;subst h
      exact (qdo _).2 ⟨⟨o1,o2⟩,⟨by show b.1.length≤big;unfold big;omega,k2.1⟩,⟨Nat.zero_le _,trivial⟩,Nat.zero_le _⟩
    split at h
    ·obtain ⟨a,h1,h⟩:=q158 h
     obtain ⟨b,h2,h⟩:=q158 h
     obtain ⟨r1,h3,h⟩:=q158 h
     injection h with h;injection h with h _;subst h
     exact pl _ _ _ _ _ (qds h1 hr).2
    split at h
    ·obtain ⟨r1,h3,h⟩:=q158 h
     injection h with h;injection h with h _;subst h
     exact pl _ _ _ _ _ (by simp)
    split at h
    ·cases h
    split at h
    ·obtain ⟨a,h1,h⟩:=q158 h
     obtain ⟨r1,h3,h⟩:=q158 h
     injection h with h;injection h with h _;subst h
     exact pl _ _ _ _ _ (by simp)
    split at h
    ·obtain ⟨a,h1,h⟩:=q158 h
     obtain ⟨r1,h3,h⟩:=q158 h
     injection h with h;injection h with h _;subst h
     exact pl _ _ _ _ _ (by simp)
    ·obtain ⟨r1,h3,h⟩:=q158 h
     injection h with h;injection h with h _;subst h
     exact pl _ _ _ _ _ (by simp)
  ·simp only [sBlock] at h
   obtain ⟨r,h1,h⟩:=q158 h
   obtain ⟨y,h2,h⟩:=q158 h
   obtain ⟨r2,h3,h⟩:=q158 h
   injection h with h;injection h with h _;subst h
   have k1:=ihs d m r y.1 y.2.1 y.2.2 h2 (qdq h1 hL)
   have hl:=(qdq h1 hL).2
   rw [List.length_map] at hl
   exact ⟨k1.1,by omega⟩
  ·cases L with
   |nil=>simp only [sRules] at h;injection h with h;injection h with h _;subst h;exact ⟨trivial,Nat.zero_le _⟩
   |cons x r0 =>
    simp only [sRules] at h
    split at h
    ·injection h with h;injection h with h _;subst h;exact ⟨trivial,Nat.zero_le _⟩
    ·obtain ⟨y,h1,h⟩:=q158 h
     obtain ⟨z,h2,h⟩:=q158 h
     injection h with h;injection h with h _;subst h
     have k1:=ih d m (x::r0) y.1 y.2.1 y.2.2 h1 hL
     have k0:=qbv h1
     have hb:Lok (y.2.1.map er):=by
      obtain ⟨_,w,C,_,q,_⟩:=(q78 f).1 d m (x::r0) y.1 y.2.1 y.2.2 h1
      rw [q] at hL
      exact hL.cons.app
     have k2:=ihs d y.2.2 y.2.1 z.1 z.2.1 z.2.2 h2 hb
     exact ⟨⟨k1,k2.1⟩,by simp only [List.length_cons] at k0 ⊢;omega⟩
theorem q8z:∀ {L:List Tok},Good L→∀ e∈L.map er,e.2.length≤4000
 |[],h=>h.elim
 |x::R,h=>by
  intro e he
  rcases List.mem_cons.1 he with rfl|he
  ·exact h.2.1
  ·have:=h.2.2
   split at this
   ·subst this;cases he
   ·exact q8z this e he
theorem q11a {t:List UInt8} (ht:t.length≤4000) {l:List S59} (h:sScript t=.inr l):l.length≤big∧okL l:=by
 have hg:=q90 4000 t 0 ht (Nat.le_refl _)
 have hl:=q15g (t.length+1) t 0
 have hl:(toksF t 0).length≤t.length+1:=hl
 have hk:Lok ((toksF t 0).map er):=⟨q8z hg,by rw [List.length_map];omega⟩
 unfold sScript at h
 obtain ⟨y,h1,h⟩:=q158 h
 have k:=(qdr (fuel t)).2.2 1 0 (toksF t 0) y.1 y.2.1 y.2.2 h1 hk
 split at h
 ·split at h
  ·injection h with h;subst h
   exact ⟨by unfold big;omega,k.1⟩
  ·cases h
 ·cases h
end Go.Proofs.YtognhcibcocbkaaGreatDoor
namespace Go.Proofs.YtognhcibcocbkaaGreatDoor
open Go.RowKit
theorem q111 (b:ByteArray):sParse (bl b)=if 4000<b.size then ([],(1,-1)) else match sScript (bl b) with
  |.inl o=>([],(11,(o:Int)))
  |.inr l=>if (scriptF l).1≠0 then ([],((scriptF l).1,-2)) else (l,(0,0)):=by
 unfold sParse
 rw [show (bl b).length=b.size by simp [bl]]
 rfl
theorem qe1 (b:ByteArray):qsd b=some (sParse (bl b)) :=
 qe2 b fun hb l h=>q11a (by rw [show (bl b).length=b.size by simp [bl]];exact hb) h
theorem qe3 (b:ByteArray):qfb b=some (sParse (bl b)):=by
 have e1:q5u.decL []=[]:=rfl
 have hlen:(bl b).length=b.size:=by simp [bl]
 rw [q111]
 by_cases h4:4000<b.size
 ·rw [if_pos h4]
  refine qfa ?_
  simp only [qfc,gL,dL,eC,p0,q3w,q8t,EC.decL_encL,EC.isL_encL,EC.encL_length,qa9,q27,show ((b.size:Nat):Int)>4000 by omega,decide_true,if_true,q2v,Option.bind_some,e1]
 rw [if_neg h4]
 have hb:b.size≤4000:=by omega
 have hsz:¬ ((b.size:Nat):Int)>4000:=by omega
 have hT:=q15b b hb
 have hl:=q15g ((bl b).length+1) (bl b) 0
 have hl:(toksF (bl b) 0).length≤(bl b).length+1:=hl
 have hg:=q90 4000 (bl b) 0 (by omega) (Nat.le_refl _)
 have hT:qnw b=some ((toksF (bl b) 0).map wordW):=hT
 obtain ⟨v,q1,q2⟩:=(rs_all (toksF (bl b) 0) (by omega) (fuel (bl b))).2 1 0 0 (toksF (bl b) 0) [] (List.drop_zero) hg (by omega) (by omega) (by unfold fuel;omega) (by simp only [List.length_nil];omega)
 have q1:=qrp _ _ q1
 generalize l2v v=u at q1 q2
 obtain ⟨l,s1,s2,s3⟩:=u
 have q1:qgb ((toksF (bl b) 0).map wordW) 0 0 (-1) 1=some (l,(s1,(s2,s3))):=q1
 have sc:sScript (bl b)=thn (sRules (fuel (bl b)) 1 0 (toksF (bl b) 0)) fun y=>match y.2.1 with|x::_=>if x.k=0 then .inr y.1 else .inl x.o|[]=>.inl 0:=rfl
 cases hr:sRules (fuel (bl b)) 1 0 (toksF (bl b) 0) with
 |inl o =>
  rw [hr] at q2 sc
  have sc:sScript (bl b)=.inl o:=sc
  rw [sc]
  rcases q2 with ⟨n,m',e⟩|⟨j,z,R2,m',k1,k2,e,k4,k5⟩
  ·injection e with e1' e;injection e with e2 e3
   subst e1';subst e2;subst e3
   refine qfa ?_
   simp only [qfc,gL,dL,eC,p0,q3w,q8t,EC.decL_encL,EC.isL_encL,EC.encL_length,qa9,q27,hsz,decide_false,Bool.false_eq_true,if_false,hT,q1,q2v,Option.bind_some,e1,show ¬ ((o:Nat):Int)<0 by omega,show (false==true)=false from rfl,show ((o:Nat):Int)≥0 by omega,decide_true,if_true]
  ·injection e with e1' e;injection e with e2 e3
   subst e1';subst e2;subst e3;subst k4
   obtain ⟨w1,w2,w3⟩:=q169 _ k1
   have hw:=q110 _ k1 (j:Int) s2
   have e0:((wordW z).Kind != 101)=true:=by
    have:=qav z.k (k:=0) (by decide)
    have e:((wordW z).Kind==101)=(kindW z.k==kindW 0):=rfl
    rw [bne,e,this]
    simp only [stopB,Bool.or_eq_false_iff] at k5
    rw [k5.1];rfl
   refine qfa ?_
   simp only [qfc,gL,dL,eC,p0,q3w,q8t,EC.decL_encL,EC.isL_encL,EC.encL_length,qa9,q27,hsz,decide_false,Bool.false_eq_true,if_false,hT,q1,q2v,Option.bind_some,e1,show (-1:Int)<0 by omega,show (0:Int)≤(j:Int) by omega,Int.toNat_natCast,List.length_map,w1,Bool.and_self,w3,e0,hw,beq_self_eq_true,show ((z.o:Nat):Int)≥0 by omega,decide_true,if_true]
 |inr y =>
  rw [hr] at q2 sc
  obtain ⟨e0',_,j,z,R2,k1,k2,k3,e⟩:=q2
  injection e with e1' e;injection e with e2 e3
  subst e1';subst e2;subst e3
  have e0':l=y.1:=by simpa using e0'
  subst e0'
  simp only [thn,k2] at sc
  obtain ⟨w1,w2,w3⟩:=q169 _ k1
  by_cases hz:z.k=0
  ·rw [if_pos hz] at sc
   obtain ⟨o1,o2⟩:=q11a (by omega) sc
   have hv:=qs8 y.1 o1 o2
   have e0:((wordW z).Kind != 101)=false:=by simp [wordW,hz,kindW]
   rw [sc]
   by_cases hf:(scriptF y.1).1=0
   ·have ef:((scriptF y.1).1 != 0)=false:=by simp [hf]
    refine qfa ?_
    simp only [qfc,gL,dL,eC,p0,q3w,q8t,EC.decL_encL,EC.isL_encL,EC.encL_length,qa9,q27,hsz,decide_false,Bool.false_eq_true,if_false,hT,q1,q2v,Option.bind_some,e1,show (-1:Int)<0 by omega,show ¬ (-1:Int)≥0 by omega,show (0:Int)≤(j:Int) by omega,Int.toNat_natCast,List.length_map,w1,Bool.and_self,w3,e0,beq_self_eq_true,decide_true,if_true,hv,hf,ne_eq,not_true_eq_false,bne_self_eq_false]
   ·have ef:((scriptF y.1).1 != 0)=true:=by simp [hf]
    refine qfa ?_
    simp only [qfc,gL,dL,eC,p0,q3w,q8t,EC.decL_encL,EC.isL_encL,EC.encL_length,qa9,q27,hsz,decide_false,Bool.false_eq_true,if_false,hT,q1,q2v,Option.bind_some,e1,show (-1:Int)<0 by omega,show ¬ (-1:Int)≥0 by omega,show (0:Int)≤(j:Int) by omega,Int.toNat_natCast,List.length_map,w1,Bool.and_self,w3,e0,beq_self_eq_true,decide_true,if_true,hv,ef,hf,ne_eq,not_false_eq_true]
  ·rw [if_neg hz] at sc
   have hw:=q110 _ k1 (j:Int) ((y.2.2:Nat):Int)
   have e0:((wordW z).Kind != 101)=true:=by
    have:=qav z.k (k:=0) (by decide)
    have e:((wordW z).Kind==101)=(kindW z.k==kindW 0):=rfl
    rw [bne,e,this]
    simp [hz]
   rw [sc]
   refine qfa ?_
   simp only [qfc,gL,dL,eC,p0,q3w,q8t,EC.decL_encL,EC.isL_encL,EC.encL_length,qa9,q27,hsz,decide_false,Bool.false_eq_true,if_false,hT,q1,q2v,Option.bind_some,e1,show (-1:Int)<0 by omega,show (0:Int)≤(j:Int) by omega,Int.toNat_natCast,List.length_map,w1,Bool.and_self,w3,e0,hw,beq_self_eq_true,show ((z.o:Nat):Int)≥0 by omega,decide_true,if_true]
theorem q113 (k:Int) (ts:List S57) (nm:ByteArray) (p:Int) (tx:ByteArray) (n:Int) (hl:ts.length≤big)
  (ih:∀ t∈ts,qkk t.Kind t.Tests t.Name t.Pattern t.Text t.N t.Kind t.Tests t.Name t.Pattern t.Text t.N=some true) :
  ∀ m i,i+m=ts.length→∃ z,qkc (i:Int) k ts nm p tx n k ts nm p tx n=some (.inr z):=by
 intro m
 induction m with
 |zero =>
  intro i hi
  have hi:i=ts.length:=by omega
  subst hi
  refine ⟨_,qke (r:=.inr (((),((),((ts.length:Int),false))),((k,(ts,(nm,(p,(tx,n))))),(k,(ts,(nm,(p,(tx,n))))))) ) ?_⟩
  simp only [qkj,z13,z14,gL,dL,lN,eC,wI,p0,uL,q3w,q8t,EC.decL_encL,EC.isL_encL,EC.encL_length,qaa,q2a,q2b,q2c,q2d,q2e,q2f,show ¬ ((ts.length:Int)<(ts.length:Int)) by omega,decide_false,Bool.false_eq_true,if_false,if_true]
 |succ m ihm =>
  intro i hi
  have hlt:i<ts.length:=by omega
  have h1:=ih _ (List.getElem_mem hlt)
  have w1:IntKind.i64.wrap ((i:Int)+1)=((i+1:Nat):Int):=q168 hlt (by unfold big at hl;omega)
  obtain ⟨z,hz⟩:=ihm (i+1) (by omega)
  refine ⟨z,qke ?_⟩
  simp only [qkj,z13,z14,gL,dL,lN,eC,wI,p0,uL,q3w,q8t,EC.decL_encL,EC.isL_encL,EC.encL_length,qaa,q2a,q2b,q2c,q2d,q2e,q2f,show ((i:Int)<(ts.length:Int)) by omega,show (0:Int)≤(i:Int) by omega,decide_true,Int.toNat_natCast,hlt,Bool.and_self,if_true,q8w hlt,h1,Option.bind_some,Bool.not_true,Bool.false_eq_true,if_false,w1,hz]
theorem q116:∀ (q:Nat) (t:S57),tzT t=q→okT t→qkk t.Kind t.Tests t.Name t.Pattern t.Text t.N t.Kind t.Tests t.Name t.Pattern t.Text t.N=some true:=by
 intro q
 induction q using Nat.strongRecOn with
 |_ q ih =>
  intro t hq ho
  obtain ⟨h1,h2⟩:=(okT_eq t).1 ho
  obtain ⟨z,hz⟩:=q113 t.Kind t.Tests t.Name t.Pattern t.Text t.N h1 (fun u hu=>ih (tzT u) (by have:=tz_mem hu;rw [q1ay] at hq;omega) u rfl (qdp h2 hu)) t.Tests.length 0 (by omega)
  have hz:qkc 0 t.Kind t.Tests t.Name t.Pattern t.Text t.N t.Kind t.Tests t.Name t.Pattern t.Text t.N=some (.inr z):=hz
  have hg:qk5 t.Kind t.Tests t.Name t.Pattern t.Text t.N t.Kind t.Tests t.Name t.Pattern t.Text t.N=some (true,()):=by
   refine qk7 ?_
   simp only [qkb,gL,dL,q8t,EC.decL_encL,EC.isL_encL,if_true,hz,Option.bind_some,Sum.elim_inr]
  refine qk4 ?_
  simp only [qkl,gL,dL,lN,q3w,q8t,EC.decL_encL,EC.isL_encL,EC.encL_length,bne_self_eq_false,beq_self_eq_true,Bool.not_true,if_true,Bool.false_eq_true,if_false,hg,Option.bind_some]
theorem q114 (l:List S59) (hl:l.length≤big) (ho:okL l) (ih:∀ r∈l,qjz r.Then r.Then=some true∧qjz r.Else r.Else=some true) :
  ∀ m i,i+m=l.length→∃ z,qjr l l (i:Int)=some (.inr z):=by
 intro m
 induction m with
 |zero =>
  intro i hi
  have hi:i=l.length:=by omega
  subst hi
  refine ⟨_,qjt (r:=.inr ((l,(l,((l.length:Int),false))),())) ?_⟩
  simp only [qjy,z15,z16,gL,dL,lN,eC,wI,p0,uL,q3w,q8t,EC.decL_encL,EC.isL_encL,EC.encL_length,qab,q2g,q2h,q2l,q2m,q2n,q2o,q2p,q2q,q2r,q2s,q2i,q2j,q2k,show ¬ ((l.length:Int)<(l.length:Int)) by omega,decide_false,Bool.false_eq_true,if_false,if_true]
 |succ m ihm =>
  intro i hi
  have hlt:i<l.length:=by omega
  obtain ⟨h1,h2⟩:=ih _ (List.getElem_mem hlt)
  have w1:IntKind.i64.wrap ((i:Int)+1)=((i+1:Nat):Int):=q168 hlt (by unfold big at hl;omega)
  have o:=(qdo _).1 (qdn ho (List.getElem_mem hlt))
  have ht:=q116 _ ⟨l[i].Test_Kind,l[i].Test_Tests,l[i].Test_Name,l[i].Test_Pattern,l[i].Test_Text,l[i].Test_N⟩ rfl ((okT_eq _).2 o.1)
  have ht:qkk l[i].Test_Kind l[i].Test_Tests l[i].Test_Name l[i].Test_Pattern l[i].Test_Text l[i].Test_N l[i].Test_Kind l[i].Test_Tests l[i].Test_Name l[i].Test_Pattern l[i].Test_Text l[i].Test_N=some true:=ht
  obtain ⟨z,hz⟩:=ihm (i+1) (by omega)
  refine ⟨z,qjt ?_⟩
  simp only [qjy,z15,z16,gL,dL,lN,eC,wI,p0,uL,q3w,q8t,EC.decL_encL,EC.isL_encL,EC.encL_length,qab,q2g,q2h,q2l,q2m,q2n,q2o,q2p,q2q,q2r,q2s,q2i,q2j,q2k,show ((i:Int)<(l.length:Int)) by omega,show (0:Int)≤(i:Int) by omega,decide_true,Int.toNat_natCast,hlt,Bool.and_self,if_true,q8w hlt,bne_self_eq_false,beq_self_eq_true,h1,h2,ht,Option.bind_some,Bool.not_true,Bool.false_eq_true,if_false,w1,hz]
theorem q115:∀ (q:Nat) (l:List S59),szL l=q→l.length≤big→okL l→qjz l l=some true:=by
 intro q
 induction q using Nat.strongRecOn with
 |_ q ih =>
  intro l hq hl ho
  obtain ⟨z,hz⟩:=q114 l hl ho (fun r hr=>by
   have:=(qdo r).1 (qdn ho hr)
   exact ⟨ih _ (hq ▸ q13j hr) r.Then rfl this.2.1.1 this.2.1.2,ih _ (hq ▸ q13i hr) r.Else rfl this.2.2.1.1 this.2.2.1.2⟩) l.length 0 (by omega)
  have hz:qjr l l 0=some (.inr z):=hz
  refine qjq ?_
  simp only [qk0,gL,dL,lN,q3w,q8t,EC.decL_encL,EC.isL_encL,EC.encL_length,bne_self_eq_false,Bool.false_eq_true,if_false,if_true,hz,Option.bind_some,Sum.elim_inr]
theorem same_s {l:List S59} (hl:l.length≤big) (ho:okL l):qjz l l=some true:=q115 _ l rfl hl ho
theorem q112 (b:ByteArray):(sParse (bl b)).1.length≤big∧okL (sParse (bl b)).1:=by
 rw [q111]
 split
 ·exact ⟨Nat.zero_le _,trivial⟩
 ·rename_i h
  cases hs:sScript (bl b) with
  |inl o=>exact ⟨Nat.zero_le _,trivial⟩
  |inr l =>
   have:=q11a (by rw [show (bl b).length=b.size by simp [bl]];omega) hs
   simp only
   split
   ·exact ⟨Nat.zero_le _,trivial⟩
   ·exact this
theorem law40 (b:ByteArray):qeg b=some true:=by
 obtain ⟨h1,h2⟩:=q112 b
 refine qef ?_
 simp only [qeh,gL,dL,q3w,q8t,EC.decL_encL,EC.isL_encL,qe1,qe3,Option.bind_some,beq_self_eq_true,Bool.and_self,if_true,same_s h1 h2]
end Go.Proofs.YtognhcibcocbkaaGreatDoor
namespace Go.Proofs.YtognhcibcocbkaaGreatDoor
open Go.ChangeShapes Go.WideShapes Go.ChangeAt Go.RowKit Go.Deep
theorem qk:ownKnob Tryz.prog.godebug=none:=by kernel_rfl
theorem qj:laidOutB Tryz.prog=true:=by kernel_rfl
section
variable {H:Type} {enc:TypeId×Value→H} {P:Program}
theorem q15i (hl:laidOutB P=true) {W W':World} (hb:Bel W W'):∀ {ts:List TypeId} {vs:List Value} {ds:List (DataW H)} {ps:List MemPlace},ts.all (fun t=>P.readableRec t&&decide (t<P.types.size))=true →
  DataW.TrodAll enc P W 0 (fun _=>true) true ts vs ds ps→(∀ x∈ps,x.block<W.heap.size)→DataW.TrodAll enc P W' 0 (fun b=>decide (b<W.heap.size)) true ts vs ds ps
 |[],[],[],_,_,h,_=>h
 |[],[],_::_,_,_,h,_=>h.elim
 |[],_::_,_,_,_,h,_=>h.elim
 |_::_,[],_,_,_,h,_=>h.elim
 |_::_,_::_,[],_,_,h,_=>h.elim
 |t::ts,v::vs,d::ds,ps,hr,h,hlt=>by
  obtain ⟨p,q,h1,h2,rfl⟩:=h
  simp only [List.all_cons,Bool.and_eq_true,decide_eq_true_eq] at hr
  exact ⟨p,q,Below.trod hl hr.1.1 hr.1.2 h1 hb (fun x hx=>hlt x (List.mem_append_left _ hx)),q15i hl hb hr.2 h2 (fun x hx=>hlt x (List.mem_append_right _ hx)),rfl⟩
theorem qbm {fn:Func} {s:ChangeSpec} {W W':World} {args:Array Value} {ds gs:List (DataW H)} {before:List MemPlace} {tb:TypeId} (hl:laidOutB P=true)
  (hr:fn.params.toList.all (fun t=>P.readableRec t&&decide (t<P.types.size))=true) (hrt:fn.resultTypes=#[tb]) (htb:P.underlying tb=some .bool) (hvars:s.vars=[])
  (hfn:s.fn H ds={ results:=[.lit (.bool true)],args:=ds })
  (hW:DataW.Whole enc P fn.params.toList s.vars false W args.toList ds gs before) (hb:Bel W W'):s.post enc P fn false true false false W args (.bool true) W':=by
 have hW':=hW
 have hlt:∀ x∈before,x.block<W.heap.size:=fun x hx=>hW.lt x hx
 obtain ⟨p,q,hA,hV,rfl,hfz,hnd⟩:=hW
 rw [hvars] at hV
 obtain ⟨rfl,rfl⟩:=trodVars_none hV
 have e:s.fn H (ds++[])={ results:=[.lit (.bool true)],args:=ds }:=by rw [List.append_nil];exact hfn
 refine ⟨ds,[],p++[],[],p,[],hW',?_,?_,?_,hb.frame _,fun h=>by cases h⟩
 ·rw [e,hrt]
  exact trodAll_mk1 (shut_bool htb true)
 ·rw [e]
  exact q15i hl hb hr hA (fun x hx=>hlt x (by simpa using hx))
 ·rw [e,hvars]
  rfl
end
def Zw (w:World):ZMap:=fun b o=>w.cell? ⟨b,o,none⟩
def RepL (Z:ZMap):List Value→List C→Prop
 |[],[]=>True
 |u::us,x::xs=>RepC Z u x∧RepL Z us xs
 |_,_=>False
section
variable {H:Type} {enc:TypeId×Value→H} {P:Program}
end
section
variable {H:Type} {enc:TypeId×Value→H} {w:World}
theorem qdy {d:DataW H} {p:List MemPlace} {v:Value} (hv:∃ s,v=.string s) (h:DataW.Trod enc Tryz.prog w 0 (fun _=>true) true 9 v d p) :
  ∃ x:ByteArray,v=.string x∧d=.lit (.string x.data.toList):=by
 obtain ⟨s,rfl⟩:=hv
 obtain ⟨fuel,h⟩:=h
 obtain ⟨a,e,z,_⟩:=DataW.trod_string Tryz.underlying9 h
 injection e with e
 injection e with e
 subst e
 injection z with z _
 exact ⟨s,rfl,z⟩
end
end Go.Proofs.YtognhcibcocbkaaGreatDoor
