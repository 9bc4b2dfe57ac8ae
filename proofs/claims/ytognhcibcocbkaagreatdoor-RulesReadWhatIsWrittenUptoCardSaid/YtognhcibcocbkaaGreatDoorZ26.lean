/- The text of a valid script is read as this script. -/
import Derived.Test.YtognhcibcocbkaaGreatDoorZ25
namespace Go.Proofs.YtognhcibcocbkaaGreatDoor
open Go.RowKit
theorem ck_v:∀ (q:Nat) (l:List S59),szL l=q→∀ n d m,ckL l n d=.inr m→vL l d:=by
 intro q
 induction q using Nat.strongRecOn with
 |_ q ih =>
  intro l
  induction l with
  |nil=>intro _ n d m _;trivial
  |cons r l ihl =>
   intro hq n d m h
   simp only [ckL] at h
   split at h;· cases h
   split at h;· cases h
   rename_i hr
   have hr:=Decidable.not_not.1 hr
   have hsz:szL (r::l)=szR r+szL l:=rfl
   have hs1:=szR_eq r
   rw [ckR_eq] at h
   cases h1:ckL r.Then (n+1) (d+1) with
   |inl f=>rw [h1] at h;cases h
   |inr n1 =>
    rw [h1] at h
    simp only at h
    cases h2:ckL r.Else n1 (d+1) with
    |inl f=>rw [h2] at h;cases h
    |inr n2 =>
     rw [h2] at h
     simp only at h
     have v1:=ih _ (by omega) r.Then rfl _ _ _ h1
     have v2:=ih _ (by omega) r.Else rfl _ _ _ h2
     have v3:vL l d:=by
      rcases Nat.lt_or_ge (szL l) q with hlt|hge
      ·exact ih _ hlt l rfl _ _ _ h
      ·omega
     refine ⟨?_,v3⟩
     unfold rc at hr
     split at hr;· cases hr
     rename_i hd
     simp only [decide_eq_true_eq] at hd
     cases r
     exact ⟨by omega,hr,v1,v2⟩
theorem qvd {r:S59} {d:Nat} (h:vR r d):RF r d∧vL r.Then (d+1)∧vL r.Else (d+1):=by
 cases r
 exact ⟨qg2 h.2.1 h.1,h.2.2.1,h.2.2.2⟩
theorem EmS.ws {c:UInt8} (hc:wsB c=true) {l:List UInt8} {ts:List (Nat×List UInt8)} (h:EmS l ts):EmS (c::l) ts:=fun rest o=>by
 rw [List.cons_append,quw c hc,h]
 simp only [List.length_cons]
 rw [show o+1+l.length=o+(l.length+1) by omega]
theorem EmS.nil:EmS [] []:=fun _ _=>rfl
theorem EmS.app2 {a b:List UInt8} {ta tb:List (Nat×List UInt8)} (ha:EmS a ta) (hb:EmS b tb):EmS (a++b) (ta++tb):=fun rest o=>by
 rw [List.append_assoc,ha,hb,List.append_assoc,List.length_append,Nat.add_assoc]
theorem Em.nl {X:List UInt8} {ts:List (Nat×List UInt8)} (h:Em X ts):EmS (X++[10]) ts:=fun rest o=>by
 rw [List.append_assoc,h _ _ (by show smallB 10=false;decide)]
 simp only [List.singleton_append]
 rw [quw 10 (by decide),List.length_append]
 rfl
theorem EmS.indL {X:List UInt8} {ts:List (Nat×List UInt8)} (d:Nat) (h:EmS X ts):EmS (ind d++X) ts:=by
 unfold ind
 generalize 2*d=n
 induction n with
 |zero=>exact h
 |succ n ih=>rw [List.replicate_succ,List.cons_append];exact EmS.ws (by decide) ih
theorem Em.indL {X:List UInt8} {ts:List (Nat×List UInt8)} (d:Nat) (h:Em X ts):Em (ind d++X) ts:=by
 unfold ind
 generalize 2*d=n
 induction n with
 |zero=>exact h
 |succ n ih=>rw [List.replicate_succ,List.cons_append];exact Em.ws (by decide) ih
theorem qvg {s : ByteArray} (h : varB s = true) : wordB (bl s) = true := by
  simp only [varB, Bool.and_eq_true] at h
  unfold bl wordB
  cases hs : s.data.toList with
  | nil => have := h.2.1; have e : s.size = s.data.toList.length := by rw [Array.length_toList]; rfl
           rw [hs] at e; simp only [decide_eq_true_eq] at this; simp only [List.length_nil] at e; omega
  | cons c r =>
    have h1 := h.1
    rw [hs] at h1
    simp only [vOk] at h1
    simpa [qvc] using h1
theorem q5o:∀ (e d:Nat),d+e=9→∀ l:List S59,vL l (d+1)→EmS (rulesL l d) (rulesK l)
 |0,d,hd,[],_=>EmS.nil
 |0,d,hd,r::l,h=>by have:=(qvd h.1).1.d8;omega
 |e+1,d,hd,[],_=>EmS.nil
 |e+1,d,hd,r::l,h=>by
  obtain ⟨F,hv1,hv2⟩:=qvd h.1
  have ihl:=q5o (e+1) d hd l h.2
  simp only [rulesL,rulesK]
  refine EmS.app2 ?_ ihl
  have it:=q5o e (d+1) (by omega) r.Then hv1
  have ie:=q5o e (d+1) (by omega) r.Else hv2
  obtain ⟨k,tk,tts,tnm,tp,ttx,tn,th,el,act,nm,tx,n⟩:=r
  have F1:=F.k1
  have F2:=F.ac
  have F3:=F.nv
  have Fk:=F.k
  simp only at F1 F2 F3 Fk it ie
  simp only [ruleL,ruleK]
  refine EmS.indL d (Em.nl ?_)
  by_cases e1:k=1
  ·simp only [if_pos e1]
   have ht:=q5q 8 1 rfl _ (F1 e1).2.2.2.2
   refine Em.app1 (Em.word (by decide)) (Em.sp (Em.app ht (Em.sp (Em.sg (by decide) (by decide) (by decide) (Em.ws (by decide) (EmS.app it (Em.indL d (Em.sg (by decide) (by decide) (by decide) ?_)))))) (qrg _))) (qrg _)
   by_cases ee:el.isEmpty=true
   ·simp only [if_pos ee];exact Em.nil
   ·simp only [if_neg ee]
    refine Em.sp (Em.app1 (Em.word (by decide)) (Em.sp (Em.sg (by decide) (by decide) (by decide) (Em.ws (by decide) (EmS.app ie (Em.indL d (Em.sgn (by decide) (by decide) (by decide))))))) (qrg _))
  simp only [if_neg e1]
  by_cases e2:k=2
  ·simp only [if_pos e2]
   have hw:=Em.word (qvm (F2 e2).1)
   refine Em.app1 hw ?_ ?_
   ·split
    ·exact Em.sp (Em.qu _ (Em.sgn (by decide) (by decide) (by decide)))
    ·split
     ·exact Em.sp (Em.app (Em.num (q4z _).2 (q4z _).1) (Em.sgn (by decide) (by decide) (by decide)) (qre (by decide) _))
     ·exact Em.sgn (by decide) (by decide) (by decide)
   ·split
    ·exact qrg _
    ·split
     ·exact qrg _
     ·exact qre (by decide) _
  simp only [if_neg e2]
  by_cases e3:k=3
  ·simp only [if_pos e3]
   exact Em.app1 (Em.word (by decide)) (Em.sp (Em.app1 (Em.word (qvg (F3 e3))) (Em.sp (Em.qu _ (Em.sgn (by decide) (by decide) (by decide)))) (qrg _))) (qrg _)
  simp only [if_neg e3]
  have e4:k=4:=by omega
  simp only [if_pos e4]
  exact Em.app1 (Em.word (by decide)) (Em.sgn (by decide) (by decide) (by decide)) (qre (by decide) _)
theorem qbv {L:List Tok} {y:Nat×List UInt8} {M:List (Nat×List UInt8)} (h:L.map er=y::M):∃ x r,L=x::r∧x.k=y.1∧x.s=y.2∧r.map er=M:=by
 cases L with
 |nil=>cases h
 |cons x r =>
  rw [List.map_cons] at h
  injection h with h1 h2
  exact ⟨x,r,rfl,by rw [←h1];rfl,by rw [←h1];rfl,h2⟩
theorem qe0 {L:List Tok} {k:Nat} {s:List UInt8} {M:List (Nat×List UInt8)} (h:L.map er=(k,s)::M):∃ r,sTake k L=.inr (s,r)∧r.map er=M∧r.length+1=L.length:=by
 obtain ⟨x,r,rfl,h1,h2,h3⟩:=qbv h
 simp only at h1 h2
 exact ⟨r,by simp only [sTake,h1,if_true,h2],h3,rfl⟩
theorem p_isT {L:List Tok} {k:Nat} {s:List UInt8} {M:List (Nat×List UInt8)} (h:L.map er=(k,s)::M):isT k s L=true∧L.tail.map er=M∧L.tail.length+1=L.length:=by
 obtain ⟨x,r,rfl,h1,h2,h3⟩:=qbv h
 simp only at h1 h2
 exact ⟨by simp [isT,h1,h2],h3,rfl⟩
theorem qdy {L:List Tok} {s:List UInt8} {M:List (Nat×List UInt8)} (h:L.map er=(4,s)::M):∃ r,sNeed s L=.inr r∧r.map er=M∧r.length+1=L.length:=by
 obtain ⟨h1,h2,h3⟩:=p_isT h
 exact ⟨L.tail,by unfold sNeed;rw [if_pos h1],h2,h3⟩
theorem qc2 {p:Int} (h:1≤p∧p≤3):matchN (matchW p)=p.toNat∧p.toNat≠0:=by
 obtain ⟨h1,h2⟩:=h
 have:p=1∨p=2∨p=3:=by omega
 rcases this with h|h|h <;> subst h <;> exact ⟨by decide,by decide⟩
theorem qdx {L:List Tok} {p:Int} (hp:1≤p∧p≤3) {s:List UInt8} {M:List (Nat×List UInt8)} (h:L.map er=(2,matchW p)::(1,s)::M):∃ r,sMatch L=.inr ((p.toNat,s),r)∧r.map er=M∧r.length+2=L.length:=by
 obtain ⟨x,r,rfl,h1,h2,h3⟩:=qbv h
 obtain ⟨r2,g1,g2,g3⟩:=qe0 h3
 simp only at h1 h2
 obtain ⟨m1,m2⟩:=qc2 hp
 refine ⟨r2,?_,g2,by simp only [List.length_cons];omega⟩
 simp only [sMatch,h1,h2,m1,g1,thn,true_and]
 rw [if_pos m2]
theorem qcu (a:List UInt8) (c:UInt8):numV (a++[c])=10*numV a+(c.toNat - 48):=by simp [numV,List.foldl_append]
theorem q55 (n:Nat):numV (Lib.decDigits n)=n:=by
 induction n using Nat.strongRecOn with
 |_ n ih =>
  rw [Lib.decDigits]
  split
  ·rename_i h
   simp only [numV,List.foldl_cons,List.foldl_nil]
   rw [UInt8.toNat_ofNat']
   omega
  ·rename_i h
   rw [qcu,ih (n / 10) (by omega),UInt8.toNat_ofNat']
   omega
theorem q52:∀ (k n:Nat),n<10 ^ (k+1)→(Lib.decDigits n).length≤k+1
 |0,n,h=>by
  rw [Lib.decDigits,dif_pos (by simpa using h)]
  simp
 |k+1,n,h=>by
  rw [Lib.decDigits]
  split
  ·simp
  ·rw [List.length_append]
   have:=q52 k (n / 10) (by rw [Nat.pow_succ] at h;omega)
   simp only [List.length_singleton]
   omega
theorem q51 (n:Nat) (h:1≤n):(Lib.decDigits n).head?≠some 48:=by
 induction n using Nat.strongRecOn with
 |_ n ih =>
  rw [Lib.decDigits]
  split
  ·rename_i h1
   simp only [List.head?_cons,ne_eq,Option.some.injEq]
   intro e
   have:=congrArg UInt8.toNat e
   rw [UInt8.toNat_ofNat'] at this
   have e2:(48:UInt8).toNat=48:=rfl
   omega
  ·rename_i h1
   rw [List.head?_append]
   have:=ih (n / 10) (by omega) (by omega)
   cases hd:(Lib.decDigits (n / 10)).head? with
   |none=>rw [List.head?_eq_none_iff] at hd;exact absurd hd (q4z _).2
   |some c=>rw [hd] at this;simpa using this
theorem dec_ok {n:Nat} (h:n≤1000000):numOk (Lib.decDigits n)=true:=by
 unfold numOk
 have h1:=q52 6 n (by omega)
 simp only [Bool.and_eq_true,decide_eq_true_eq,Bool.not_eq_true',Bool.and_eq_false_iff,decide_eq_false_iff_not,beq_eq_false_iff_ne,ne_eq]
 refine ⟨by omega,?_⟩
 cases n with
 |zero=>left;rw [Lib.decDigits,dif_pos (by omega)];simp
 |succ n=>right;exact q51 _ (by omega)
theorem p_num {L:List Tok} {n:Nat} (hn:n≤1000000) {M:List (Nat×List UInt8)} (h:L.map er=(3,Lib.decDigits n)::M):∃ r,sNum L=.inr (n,r)∧r.map er=M∧r.length+1=L.length:=by
 obtain ⟨x,r,rfl,h1,h2,h3⟩:=qbv h
 simp only at h1 h2
 refine ⟨r,?_,h3,rfl⟩
 simp only [sNum,h1,h2,dec_ok hn,and_self,if_true,q55]
theorem ba_bl (s:ByteArray):baL (bl s)=s:=by cases s;simp [baL,bl]
theorem q2r {s:ByteArray} (h:s.size=0):baL []=s:=by
 have:bl s=[]:=List.eq_nil_of_length_eq_zero (by unfold bl;rw [Array.length_toList];exact h)
 rw [←this,ba_bl]
theorem qc9 {n:Int} (h:0≤n):((n.toNat:Nat):Int)=n:=Int.toNat_of_nonneg h
theorem qe1 {f d:Nat} (l:List S57) (hl:∀ t∈l,∀ g L M,2*L.length+1≤g→L.map er=testK t++M→∃ L',sTest g d L=.inr (t,L')∧L'.map er=M∧L'.length<L.length) (h1:1≤l.length) (L:List Tok) (M:List (Nat×List UInt8)) (hM:∀ x r,M=x::r→x≠(4,[44])) (hf:2*L.length+2≤f) (h:L.map er=testsK l++M) :
  ∃ L',sTests f d L=.inr (l,L')∧L'.map er=M∧L'.length<L.length:=by
 induction l generalizing f L with
 |nil=>simp at h1
 |cons t l ih =>
  cases f with
  |zero=>omega
  |succ f =>
   simp only [testsK,List.append_assoc] at h
   obtain ⟨L1,g1,g2,g3⟩:=hl t (by simp) f L _ (by omega) h
   simp only [sTests,g1,thn]
   cases l with
   |nil =>
    simp only [testsD,List.nil_append] at g2
    have:isT 4 [44] L1=false:=by
     cases L1 with
     |nil=>rfl
     |cons x r =>
      have:=hM (er x) (r.map er) (by rw [←g2];rfl)
      simp only [isT]
      cases e:x.k==4&&x.s==[44] with
      |false=>rfl
      |true =>
       simp only [Bool.and_eq_true,beq_iff_eq] at e
       exact absurd (Prod.ext e.1 e.2) this
    rw [this]
    simp only [Bool.false_eq_true,if_false]
    exact ⟨L1,rfl,g2,g3⟩
   |cons u l =>
    have e:testsD (u::l)++M=(4,[44])::(testsK (u::l)++M):=by simp only [testsD,testsK,List.cons_append]
    rw [e] at g2
    obtain ⟨k1,k2,k3⟩:=p_isT g2
    rw [k1]
    simp only [if_true]
    obtain ⟨L2,q1,q2,q3⟩:=ih (f:=f) (fun v hv=>hl v (by simp at hv ⊢;rcases hv with h|h <;> simp [h])) (by simp) L1.tail (by omega) k2
    rw [q1]
    exact ⟨L2,rfl,q2,by omega⟩
theorem p_test:∀ (e d:Nat),d+e=9→∀ t:S57,tfT t d=0→∀ g L M,2*L.length+1≤g→L.map er=testK t++M→∃ L',sTest g d L=.inr (t,L')∧L'.map er=M∧L'.length<L.length
 |0,d,hd,t,h,_,_,_,_,_=>by have:=(qtb h).d8;omega
 |e+1,d,hd,⟨k,ts,nm,p,tx,n⟩,h,0,L,M,hf,hL=>by omega
 |e+1,d,hd,⟨k,ts,nm,p,tx,n⟩,h,g+1,L,M,hf,hL=>by
  have F:=qtb h
  have ih:∀ u∈ts,∀ g L M,2*L.length+1≤g→L.map er=testK u++M→∃ L',sTest g (d+1) L=.inr (u,L')∧L'.map er=M∧L'.length<L.length:=fun u hu=>p_test e (d+1) (by omega) u (F.sub u hu)
  obtain ⟨d8,Fk,F2,F34,Fs,Fn,Fp,Fp3,Fn0,Fnr,_⟩:=F
  simp only at Fk F2 F34 Fs Fn Fp Fp3 Fn0 Fnr
  simp only [testK,List.cons_append] at hL
  obtain ⟨x,r,rfl,h1,h2,h3⟩:=qbv hL
  simp only at h1 h2
  simp only [List.length_cons] at hf
  have hc:¬ (8<d∨x.k≠2):=by omega
  simp only [sTest,if_neg hc,h2]
  have hk:k=1∨k=2∨k=3∨k=4∨k=5∨k=6∨k=7∨k=8∨k=9:=by omega
  rcases hk with e|e|e|e|e|e|e|e|e <;> subst e
  ·have et:testN (testW 1)=1:=by decide
   simp only [et]
   simp at h3
   refine ⟨r,?_,h3,by simp⟩
   have:=Fs (by omega);subst this
   have:=Fn0 (by omega);subst this
   obtain ⟨p0,t0⟩:=Fp (by omega);subst p0
   have en:=q2r (Fn (by omega));subst en
   have ex:=q2r t0;subst ex
   rfl
  ·have et:testN (testW 2)=2:=by decide
   simp only [et]
   simp only [if_true] at h3
   have hl:=F2 rfl
   cases ts with
   |nil=>simp at hl
   |cons u us =>
    cases us with
    |cons _ _=>simp at hl
    |nil =>
     simp only [testsK,testsD,List.append_nil] at h3
     obtain ⟨L1,g1,g2,g3⟩:=ih u (by simp) g r _ (by omega) h3
     simp only [g1,thn]
     refine ⟨L1,?_,g2,by simp only [List.length_cons];omega⟩
     have:=Fn0 (by omega);subst this
     obtain ⟨p0,t0⟩:=Fp (by omega);subst p0
     have en:=q2r (Fn (by omega));subst en
     have ex:=q2r t0;subst ex
     rfl
  ·have et:testN (testW 3)=3:=by decide
   simp only [et]
   simp at h3
   obtain ⟨r1,q1,q2,q3⟩:=qdy h3
   obtain ⟨L1,g1,g2,g3⟩:=qe1 (f:=g) ts ih (F34 (by omega)) r1 _ (by intro x r e;injection e with e;subst e;simp) (by omega) q2
   obtain ⟨r2,w1,w2,w3⟩:=qdy g2
   simp only [q1,g1,w1,thn]
   refine ⟨r2,?_,w2,by simp only [List.length_cons];omega⟩
   have:=Fn0 (by omega);subst this
   obtain ⟨p0,t0⟩:=Fp (by omega);subst p0
   have en:=q2r (Fn (by omega));subst en
   have ex:=q2r t0;subst ex
   rfl
  ·have et:testN (testW 4)=4:=by decide
   simp only [et]
   simp at h3
   obtain ⟨r1,q1,q2,q3⟩:=qdy h3
   obtain ⟨L1,g1,g2,g3⟩:=qe1 (f:=g) ts ih (F34 (by omega)) r1 _ (by intro x r e;injection e with e;subst e;simp) (by omega) q2
   obtain ⟨r2,w1,w2,w3⟩:=qdy g2
   simp only [q1,g1,w1,thn]
   refine ⟨r2,?_,w2,by simp only [List.length_cons];omega⟩
   have:=Fn0 (by omega);subst this
   obtain ⟨p0,t0⟩:=Fp (by omega);subst p0
   have en:=q2r (Fn (by omega));subst en
   have ex:=q2r t0;subst ex
   rfl
  ·have et:testN (testW 5)=5:=by decide
   simp only [et]
   simp at h3
   obtain ⟨r1,q1,q2,q3⟩:=qe0 h3
   have hp:=Fp3 (by omega)
   obtain ⟨r2,w1,w2,w3⟩:=qdx hp q2
   simp only [q1,w1,thn]
   refine ⟨r2,?_,w2,by simp only [List.length_cons];omega⟩
   have:=Fs (by omega);subst this
   have:=Fn0 (by omega);subst this
   simp only [tst,ba_bl,qc9 (show 0≤p by omega)]
   rfl
  ·have et:testN (testW 6)=6:=by decide
   simp only [et]
   simp at h3
   have hp:=Fp3 (by omega)
   obtain ⟨r2,w1,w2,w3⟩:=qdx hp h3
   simp only [w1,thn]
   refine ⟨r2,?_,w2,by simp only [List.length_cons];omega⟩
   have:=Fs (by omega);subst this
   have:=Fn0 (by omega);subst this
   simp only [tst,ba_bl,q2r (Fn (by omega)),qc9 (show 0≤p by omega)]
   rfl
  ·have et:testN (testW 7)=7:=by decide
   simp only [et]
   simp at h3
   have hp:=Fp3 (by omega)
   obtain ⟨r2,w1,w2,w3⟩:=qdx hp h3
   simp only [w1,thn]
   refine ⟨r2,?_,w2,by simp only [List.length_cons];omega⟩
   have:=Fs (by omega);subst this
   have:=Fn0 (by omega);subst this
   simp only [tst,ba_bl,q2r (Fn (by omega)),qc9 (show 0≤p by omega)]
   rfl
  ·have et:testN (testW 8)=8:=by decide
   simp only [et]
   simp at h3
   obtain ⟨r2,w1,w2,w3⟩:=p_num (by omega) h3
   simp only [w1,thn]
   refine ⟨r2,?_,w2,by simp only [List.length_cons];omega⟩
   have:=Fs (by omega);subst this
   obtain ⟨p0,t0⟩:=Fp (by omega);subst p0
   have en:=q2r (Fn (by omega));subst en
   have ex:=q2r t0;subst ex
   simp only [tst,qc9 Fnr.1]
   rfl
  ·have et:testN (testW 9)=9:=by decide
   simp only [et]
   simp at h3
   obtain ⟨r1,q1,q2,q3⟩:=qe0 h3
   simp only [q1,thn]
   refine ⟨r1,?_,q2,by simp only [List.length_cons];omega⟩
   have:=Fs (by omega);subst this
   have:=Fn0 (by omega);subst this
   obtain ⟨p0,t0⟩:=Fp (by omega);subst p0
   simp only [tst,q2r t0,ba_bl]
   rfl
end Go.Proofs.YtognhcibcocbkaaGreatDoor
namespace Go.Proofs.YtognhcibcocbkaaGreatDoor
open Go.RowKit
def stopM (M:List (Nat×List UInt8)):Prop:=∀ x r,M=x::r→x.1=0∨x=(4,[125])
def noElse (M:List (Nat×List UInt8)):Prop:=∀ x r,M=x::r→x≠(2,wElse)
def PRs (d:Nat):Prop:=∀ l,vL l d→∀ f m L M,2*L.length+4≤f→L.map er=rulesK l++M→stopM M→m+szL l≤100→∃ L',sRules f d m L=.inr (l,L',m+szL l)∧L'.map er=M∧L'.length≤L.length
theorem qdw {d:Nat} (ih:PRs d) {l:List S59} (hl:vL l d) {f m:Nat} {L:List Tok} {M:List (Nat×List UInt8)} (hf:2*L.length+3≤f) (h:L.map er=(4,[123])::(rulesK l++(4,[125])::M)) (hm:m+szL l≤100) :
  ∃ L',sBlock f d m L=.inr (l,L',m+szL l)∧L'.map er=M∧L'.length<L.length:=by
 cases f with
 |zero=>omega
 |succ f =>
  obtain ⟨r,h1,h2,h3⟩:=qdy h
  obtain ⟨L1,g1,g2,g3⟩:=ih l hl f m r _ (by omega) h2 (by intro x r e;injection e with e;subst e;exact .inr rfl) hm
  obtain ⟨r2,w1,w2,w3⟩:=qdy g2
  simp only [sBlock,h1,g1,w1,thn]
  exact ⟨r2,rfl,w2,by omega⟩
theorem act_W {a:Int} (h:1≤a∧a≤7):actN (actW a)=a.toNat∧¬ actN (actW a)=0∧¬ actW a=wIf∧¬ actW a=wSet∧¬ actW a=wStop:=by
 obtain ⟨h1,h2⟩:=h
 have:a=1∨a=2∨a=3∨a=4∨a=5∨a=6∨a=7:=by omega
 rcases this with h|h|h|h|h|h|h <;> subst h <;> decide
theorem p_rule {d:Nat} (ih:PRs (d+1)) {r:S59} (hr:vR r d) {f m:Nat} {L:List Tok} {M:List (Nat×List UInt8)} (hf:2*L.length+3≤f) (h:L.map er=ruleK r++M) (hM:noElse M) (hm:m+szR r≤100) :
  ∃ L',sRule f d m L=.inr (r,L',m+szR r)∧L'.map er=M∧L'.length<L.length:=by
 cases f with
 |zero=>omega
 |succ f =>
  obtain ⟨F,hv1,hv2⟩:=qvd hr
  obtain ⟨d8,Fk,F1,Fte,F2,Fna,Fnn,F3,F4⟩:=F
  have hsz:=szR_eq r
  obtain ⟨k,tk,tts,tnm,tp,ttx,tn,th,el,act,nm,tx,n⟩:=r
  simp only at Fk F1 Fte F2 Fna Fnn F3 F4 hv1 hv2 hsz
  simp only [ruleK] at h
  by_cases e1:k=1
  ·subst e1
   obtain ⟨a0,n0,t00,N0,ht⟩:=F1 rfl
   subst a0 N0
   have en:=q2r n0;subst en
   have ex:=q2r t00;subst ex
   simp only [if_true,List.cons_append,List.append_assoc] at h
   obtain ⟨x,r,rfl,h1,h2,h3⟩:=qbv h
   simp only at h1 h2
   simp only [List.length_cons] at hf
   have hc:¬ (100<m+1∨8<d∨x.k≠2):=by omega
   simp only [sRule,if_neg hc,h2,if_true]
   obtain ⟨L1,g1,g2,g3⟩:=p_test 8 1 rfl _ ht f r _ (by omega) h3
   obtain ⟨L2,q1,q2,q3⟩:=qdw (f:=f) (m:=m+1) ih hv1 (by omega) g2 (by omega)
   simp only [g1,q1,thn]
   cases el with
   |nil =>
    simp only [List.isEmpty_nil,if_true,List.nil_append] at q2
    have hn:isT 2 wElse L2=false:=by
     cases L2 with
     |nil=>rfl
     |cons y r' =>
      have:=hM (er y) (r'.map er) (by rw [←q2];rfl)
      simp only [isT]
      cases e:y.k==2&&y.s==wElse with
      |false=>rfl
      |true =>
       simp only [Bool.and_eq_true,beq_iff_eq] at e
       exact absurd (Prod.ext e.1 e.2) this
    rw [hn]
    simp only [Bool.false_eq_true,if_false]
    refine ⟨L2,?_,q2,by simp only [List.length_cons];omega⟩
    have e0:szL ([]:List S59)=0:=rfl
    rw [show m+1+szL th=m+szR ⟨1,tk,tts,tnm,tp,ttx,tn,th,[],0,baL [],baL [],0⟩ by rw [hsz];omega]
    rfl
   |cons u el =>
    simp only [List.isEmpty_cons,Bool.false_eq_true,if_false,List.cons_append,List.append_assoc,List.nil_append] at q2
    obtain ⟨k1,k2,k3⟩:=p_isT q2
    rw [k1]
    simp only [if_true]
    obtain ⟨L3,w1,w2,w3⟩:=qdw (f:=f) (m:=m+1+szL th) ih hv2 (by omega) k2 (by omega)
    simp only [w1]
    refine ⟨L3,?_,w2,by simp only [List.length_cons];omega⟩
    rw [show m+1+szL th+szL (u::el)=m+szR ⟨1,tk,tts,tnm,tp,ttx,tn,th,u::el,0,baL [],baL [],0⟩ by rw [hsz];omega]
    rfl
  simp only [if_neg e1] at h
  obtain ⟨f1,f2,f3,f4,f5,f6,f7,f8⟩:=Fte e1
  subst f1 f2 f4 f6 f7 f8
  have en:=q2r f3;subst en
  have ex:=q2r f5;subst ex
  have hsz1:szR ⟨k,0,[],baL [],0,baL [],0,[],[],act,nm,tx,n⟩=1:=by rw [hsz];rfl
  rw [hsz1] at hm ⊢
  by_cases e2:k=2
  ·subst e2
   obtain ⟨ha,hx,hn,hrn⟩:=F2 rfl
   have ey:=q2r (Fnn (by omega));subst ey
   obtain ⟨w1,w2,w3,w4,w5⟩:=act_W ha
   simp only [if_true,List.cons_append,List.append_assoc] at h
   obtain ⟨x,r,rfl,h1,h2,h3⟩:=qbv h
   simp only at h1 h2
   simp only [List.length_cons] at hf
   have hc:¬ (100<m+1∨8<d∨x.k≠2):=by omega
   simp only [sRule,if_neg hc,h2,if_neg w2,if_neg w3,if_neg w4,if_neg w5]
   simp only [w1,qc9 (show 0≤act by omega)]
   by_cases e6:act=6
   ·subst e6
    have hz:=q2r (hx (by decide));subst hz
    have:txtB 6=false:=by decide
    simp only [this,Bool.false_eq_true,if_false,if_true,List.cons_append,List.nil_append] at h3
    obtain ⟨r1,q1,q2,q3⟩:=p_num (by omega) h3
    obtain ⟨r2,v1,v2,v3⟩:=qdy q2
    have e6:((6:Int).toNat=6):=rfl
    simp only [e6,if_true,q1,v1,thn]
    refine ⟨r2,?_,v2,by simp only [List.length_cons];omega⟩
    simp only [rul,qc9 hrn.1]
    rfl
   ·have e6':¬ act.toNat=6:=by omega
    have hn0:=hn e6;subst hn0
    simp only [e6',if_false]
    cases ht:txtB act with
    |true =>
     simp only [ht,if_true,List.cons_append,List.nil_append] at h3
     obtain ⟨r1,q1,q2,q3⟩:=qe0 h3
     obtain ⟨r2,v1,v2,v3⟩:=qdy q2
     simp only [if_true,q1,v1,thn]
     refine ⟨r2,?_,v2,by simp only [List.length_cons];omega⟩
     simp only [rul,qc9 (show 0≤act by omega),ba_bl]
     rfl
    |false =>
     have hz:=q2r (hx ht);subst hz
     simp only [ht,Bool.false_eq_true,if_false,e6,List.nil_append] at h3
     obtain ⟨r2,v1,v2,v3⟩:=qdy h3
     simp only [Bool.false_eq_true,if_false,v1,thn]
     refine ⟨r2,?_,v2,by simp only [List.length_cons];omega⟩
     simp only [rul,qc9 (show 0≤act by omega)]
     rfl
  simp only [if_neg e2] at h
  obtain ⟨A0,N0⟩:=Fna e2
  subst A0 N0
  by_cases e3:k=3
  ·subst e3
   simp only [if_true,List.cons_append,List.nil_append] at h
   obtain ⟨x,r,rfl,h1,h2,h3⟩:=qbv h
   simp only at h1 h2
   simp only [List.length_cons] at hf
   have hc:¬ (100<m+1∨8<d∨x.k≠2):=by omega
   have n1:¬ wSet=wIf:=by decide
   simp only [sRule,if_neg hc,h2,if_neg n1,if_true]
   obtain ⟨r1,q1,q2,q3⟩:=qe0 h3
   obtain ⟨r2,v1,v2,v3⟩:=qe0 q2
   obtain ⟨r3,u1,u2,u3⟩:=qdy v2
   simp only [q1,v1,u1,thn]
   refine ⟨r3,?_,u2,by simp only [List.length_cons];omega⟩
   simp only [rul,ba_bl]
   rfl
  ·simp only [if_neg e3] at h
   have e4:k=4:=by omega
   subst e4
   have ey:=q2r (Fnn (by omega));subst ey
   have ez:=q2r (F4 rfl);subst ez
   simp only [if_true,List.cons_append,List.nil_append] at h
   obtain ⟨x,r,rfl,h1,h2,h3⟩:=qbv h
   simp only at h1 h2
   simp only [List.length_cons] at hf
   have hc:¬ (100<m+1∨8<d∨x.k≠2):=by omega
   have n1:¬ wStop=wIf:=by decide
   have n2:¬ wStop=wSet:=by decide
   simp only [sRule,if_neg hc,h2,if_neg n1,if_neg n2,if_true]
   obtain ⟨r3,u1,u2,u3⟩:=qdy h3
   simp only [u1,thn]
   exact ⟨r3,rfl,u2,by simp only [List.length_cons];omega⟩
theorem qgv {r:S59} {d:Nat} (hr:vR r d):∃ w M,ruleK r=(2,w)::M∧w≠wElse:=by
 obtain ⟨F,_,_⟩:=qvd hr
 obtain ⟨d8,Fk,F1,Fte,F2,Fna,Fnn,F3,F4⟩:=F
 obtain ⟨k,tk,tts,tnm,tp,ttx,tn,th,el,act,nm,tx,n⟩:=r
 simp only at Fk F2
 simp only [ruleK]
 by_cases e1:k=1
 ·simp only [if_pos e1];exact ⟨_,_,rfl,by decide⟩
 simp only [if_neg e1]
 by_cases e2:k=2
 ·simp only [if_pos e2]
  refine ⟨_,_,rfl,?_⟩
  obtain ⟨h1,h2⟩:=(F2 e2).1
  have:act=1∨act=2∨act=3∨act=4∨act=5∨act=6∨act=7:=by omega
  rcases this with h|h|h|h|h|h|h <;> subst h <;> decide
 simp only [if_neg e2]
 by_cases e3:k=3
 ·simp only [if_pos e3];exact ⟨_,_,rfl,by decide⟩
 simp only [if_neg e3]
 have e4:k=4:=by omega
 simp only [if_pos e4]
 exact ⟨_,_,rfl,by decide⟩
theorem qdz:∀ (e d:Nat),d+e=9→PRs d
 |e,d,hd,[],_,0,m,L,M,hf,h,hM,hm=>by omega
 |e,d,hd,[],_,f+1,m,L,M,hf,h,hM,hm=>by
  simp only [rulesK,List.nil_append] at h
  cases L with
  |nil=>exact ⟨[],by simp [sRules,szL],h,Nat.le_refl _⟩
  |cons x r =>
   have:=hM (er x) (r.map er) (by rw [←h];rfl)
   have hs:stopB x=true:=by
    unfold stopB
    rcases this with h|h
    ·have:x.k=0:=h
     simp [this]
    ·injection h with h1 h2
     have h1:x.k=4:=h1
     have h2:x.s=[125]:=h2
     simp [h1,h2]
   simp only [sRules,hs,if_true]
   exact ⟨x::r,rfl,h,Nat.le_refl _⟩
 |0,d,hd,r::l,hv,f,m,L,M,hf,h,hM,hm=>by have:=(qvd hv.1).1.d8;omega
 |e+1,d,hd,r::l,hv,0,m,L,M,hf,h,hM,hm=>by omega
 |e+1,d,hd,r::l,hv,f+1,m,L,M,hf,h,hM,hm=>by
  have ih:=qdz e (d+1) (by omega)
  have hsz:szL (r::l)=szR r+szL l:=rfl
  simp only [rulesK,List.append_assoc] at h
  obtain ⟨w,M0,hw,_⟩:=qgv hv.1
  have hne:noElse (rulesK l++M):=by
   intro x r' e
   cases l with
   |nil =>
    simp only [rulesK,List.nil_append] at e
    rcases hM x r' e with h|h
    ·intro h';rw [h'] at h;cases h
    ·intro h';rw [h'] at h;injection h with h _;cases h
   |cons u l =>
    obtain ⟨w,M1,hw,hne⟩:=qgv hv.2.1
    simp only [rulesK,hw,List.cons_append] at e
    injection e with e _
    rw [←e]
    intro h'
    injection h' with _ h'
    exact hne h'
  have h0:=h
  rw [hw] at h0
  obtain ⟨x,r0,rfl,h1,h2,h3⟩:=qbv h0
  simp only at h1
  have hs:stopB x=false:=by unfold stopB;simp [h1]
  simp only [sRules,hs,Bool.false_eq_true,if_false]
  obtain ⟨L1,g1,g2,g3⟩:=p_rule (f:=f) (m:=m) ih hv.1 (by omega) h hne (by omega)
  obtain ⟨L2,q1,q2,q3⟩:=qdz (e+1) d hd l hv.2 f (m+szR r) L1 M (by omega) g2 hM (by omega)
  simp only [g1,q1,thn]
  refine ⟨L2,?_,q2,by omega⟩
  rw [hsz,Nat.add_assoc]
termination_by e d _ l=>(e,l.length)
theorem quy:∀ (f:Nat) (l:List UInt8) (o:Nat),(toks f l o).length≤f
 |0,_,_=>Nat.le_refl _
 |f+1,l,o=>by
  simp only [toks,List.length_cons]
  split
  ·simp
  ·have:=quy f (l.drop (wsN l+(lexT (l.drop (wsN l))).2)) (o+wsN l+(lexT (l.drop (wsN l))).2)
   omega
theorem quu (o:Nat):(toksF [] o).map er=[(0,[])]:=by
 rw [qut]
 simp [wsN,lexT,endK,er]
theorem qrq {l:List S59} (h:(scriptF l).1=0):∃ m,ckL l 0 1=.inr m∧m=szL l∧szL l≤100:=by
 unfold scriptF at h
 cases hc:ckL l 0 1 with
 |inl f=>rw [hc] at h;exact absurd h ((ck_sz _ l rfl 0 1 (by omega)).2 f hc)
 |inr m =>
  have:=(ck_sz _ l rfl 0 1 (by omega)).1 m hc
  exact ⟨m,rfl,by omega,by omega⟩
theorem qg5 {l:List S59} (h:(scriptF l).1=0):sScript (rulesL l 0)=.inr l:=by
 obtain ⟨m,h1,h2,h3⟩:=qrq h
 have hv:=ck_v _ l rfl _ _ _ h1
 have he:=q5o 9 0 rfl l hv [] 0
 rw [List.append_nil,quu] at he
 have hl:=quy ((rulesL l 0).length+1) (rulesL l 0) 0
 obtain ⟨L',g1,g2,g3⟩:=qdz 8 1 rfl l hv (fuel (rulesL l 0)) 0 (toksF (rulesL l 0) 0) [(0,[])] (by unfold fuel toksF;omega) he (by intro x r e;injection e with e;subst e;exact .inl rfl) (by omega)
 unfold sScript
 have g1':sRules (fuel (rulesL l 0)) 1 0 (toks ((rulesL l 0).length+1) (rulesL l 0) 0)=.inr (l,L',0+szL l):=g1
 rw [g1']
 obtain ⟨x,r,rfl,k1,k2,k3⟩:=qbv g2
 simp only at k1
 simp only [thn,k1,if_true]
end Go.Proofs.YtognhcibcocbkaaGreatDoor
