/- evaluate.Run in plain words. -/
import Derived.Test.YtmlcmoaonaomfaaGreatDoorZ23
import Derived.ProofKit
import Derived.OpenShut
import Derived.JoinedCond
import Derived.Deep.Slices
import Derived.Deep.Fields
import Derived.Lib.SmallJoins
namespace Go.Proofs.YtmlcmoaonaomfaaGreatDoor
open Go.RowKit
theorem que (l:List S71) (b:List Int) (hb:b.length<=2000000):Ok (qti l b) λr=>(r.1.2.1=0->HdrOk l)/\r.1.1=r.2.length:=.via qth (by
 unfold qtj;try simp only [gL,dL]
 simp only [x25q,x26q,qj];refine qw4 rfl (qw4 rfl (qw1 (qud l b hb) λr hr=>qw1 (qw3 (qi9 _ _)) λr1 hr1=>?_));subst hr1;refine qw2 (λhb=>qw5 ⟨hr,rfl⟩) (λhb0=>?_);have h0:r.1=0:=by simpa using hb0
 have hok:=hr h0;exact qw4 rfl (qw4 rfl (qw1 (q1ju l hok.len b hb) λr2 h2=>qw1 qv3 λr3 _=>qw4 rfl (qw5 ⟨λ_=>hok,h2⟩))))
def dB (k:Int):Bool:=k != 6&&k != 7
theorem qaz (l:List S54) (hl:l.length<=big):∀ m k,k+m=l.length->∃ x,qf6 l l.length k=some x/\Sum.elim (λr=>r.1) (λ_=>false) x=(l.drop k).any λa=>dB a.Kind:=by
 intro m;induction m with
 |zero =>
  intro k hk;have hk:k=l.length:=by omega
  subst hk
  refine ⟨.inr ((l,(l.length:Int),(l.length:Int),false),()),qf8 (by
   simp only [qfd,gL,dL,eC,wI,p0,q8c,qm1,x25q,x26q,x27q,isE_54,q52];simp),?_⟩
  rw [List.drop_length];rfl
 |succ m ihm =>
  intro k hk;have hlt:k<l.length:=by omega
  have e1:decide ((k:Int)<(l.length:Int))=true:=by simp;omega
  have e0:decide ((0:Int)<=(k:Int))=true:=by simp
  have e2:IntKind.i64.wrap ((k:Int)+1)=((k+1:Nat):Int):=q1jr hlt (by unfold big at hl;omega)
  have hd2:decide (k<l.length)=true:=by simp [hlt]
  obtain ⟨x,h1,h2⟩:=ihm (k+1) (by omega)
  rw [qbm hlt,List.any_cons,dB];cases h6:(l[k].Kind != 6) with
  |false =>
   refine ⟨x,qf8 ?_,by rw [Bool.false_and,Bool.false_or];exact h2⟩
   simp only [qfd,gL,dL,eC,wI,p0,q8c,qm1,x25q,x26q,x27q,isE_54,q52,e1,e0,x20q,x3q,hd2,x4q,qm4 hlt,h6,x1q,x21q,e2,show (false==true)=false from rfl]
   exact h1
  |true =>
  cases h7:(l[k].Kind != 7) with
  |false =>
   refine ⟨x,qf8 ?_,by rw [Bool.true_and,Bool.false_or];exact h2⟩
   simp only [qfd,gL,dL,eC,wI,p0,q8c,qm1,x25q,x26q,x27q,isE_54,q52,e1,e0,x20q,x3q,hd2,x4q,qm4 hlt,h6,h7,x1q,x21q,e2,x19q];exact h1
  |true =>refine ⟨.inl (true,()),qf8 ?_,rfl⟩;simp only [qfd,gL,dL,eC,wI,p0,q8c,qm1,x25q,x26q,x27q,isE_54,q52,e1,e0,x20q,x3q,hd2,x4q,qm4 hlt,h6,h7,x19q]
theorem qb5 (l:List S54) (hl:l.length<=big):qfe l=some (l.any λa=>dB a.Kind):=by
 obtain ⟨x,h1,h2⟩:=qaz l hl l.length 0 (by omega)
 have h1:qf6 l l.length 0=some x:=h1;rw [x10q] at h2;refine qf5 ?_;simp only [qff,gL,dL,lN,qm1,x25q,x26q,x27q,x20q,h1,x0q,←h2];rcases x with x|x <;> rfl
def finA (a:List S54):List S54:=if (a.any λx=>dB x.Kind)=true then a else a++[⟨1,noTx,0⟩]
structure MOk (s:List S38) (f:BA) (rc:List S73) (bd:List Int):Prop where
 len:s.length<=big
 ok:okL s
 fr:f.size<=2000000
 rl:rc.length<=2000000
 ad:∀ x∈rc,x.Address.size<=2000000
 bl:bd.length<=2000000
noncomputable def envF (f:BA) (rc:List S73) (e:BA):Int×Int:=(qec f rc e).getD (0,0)
noncomputable def msgF (fs:List S71) (bd:List Int):(Nat×Int×Int)×List Int:=(qti fs bd).getD ((0,0,0),[])
theorem envF_s {s:List S38} {f:BA} {rc:List S73} {bd:List Int} (h:MOk s f rc bd) (e:BA):qec f rc e=some (envF f rc e)/\((envF f rc e).1=0->envB f rc):=by obtain ⟨r,e1,h1⟩:=env_ok f rc e h.fr h.rl h.ad;unfold envF;rw [e1];exact ⟨rfl,h1⟩
theorem msgF_s (fs:List S71) {bd:List Int} (h:bd.length<=2000000):qti fs bd=some (msgF fs bd)/\((msgF fs bd).1.2.1=0->HdrOk fs)/\(msgF fs bd).1.1=(msgF fs bd).2.length:=by obtain ⟨r,e1,h1,h2⟩:=que fs bd h;unfold msgF;rw [e1];exact ⟨rfl,h1,h2⟩
noncomputable def runF (s:List S38) (f:BA) (rc:List S73) (e:BA) (fs:List S71) (bd:List Int):Int×Int :=
 if (scrF s).1≠0 then scrF s else if (envF f rc e).1≠0 then ((envF f rc e).1,-3) else if (msgF fs bd).1.2.1≠0 then ((msgF fs bd).1.2.1,-2) else (0,0)
noncomputable def theRun (s:List S38) (f:BA) (rc:List S73) (fs:List S71) (bd:List Int):Bool×MM×List S54×List S87:=exeL f rc fs (((msgF fs bd).1.1:Nat):Int) s 0 [] [] []
noncomputable def runA (s:List S38) (f:BA) (rc:List S73) (e:BA) (fs:List S71) (bd:List Int):List S54:=if (runF s f rc e fs bd).1≠0 then [] else finA (theRun s f rc fs bd).2.2.1
theorem runF_0 {s:List S38} {f:BA} {rc:List S73} {e:BA} {fs:List S71} {bd:List Int} (h:(runF s f rc e fs bd).1=0):(scrF s).1=0/\(envF f rc e).1=0/\(msgF fs bd).1.2.1=0:=by
 unfold runF at h;split at h
 ·rename_i h0;exact absurd h h0
 ·rename_i h0
  split at h
  ·rename_i h1;exact absurd h h1
  ·rename_i h1
   split at h
   ·rename_i h2;exact absurd h h2
   ·rename_i h2
    exact ⟨by simpa using h0,by simpa using h1,by simpa using h2⟩
theorem val_ok {s:List S38} (h:(scrF s).1=0):okvL s/\szL s<=100:=by obtain ⟨m,m1,m2,m3⟩:=q1cn h;exact ⟨⟨0,1,m,by omega,m1⟩,m3⟩
theorem q1i5 {s:List S38} (f:BA) (rc:List S73) (fs:List S71) (bd:List Int) (h:(scrF s).1=0):exP 0 [] [] (szL s) (theRun s f rc fs bd):=qhi f rc fs _ (szL s) s rfl (val_ok h).1 0 0 [] [] [] Inv.nil
end Go.Proofs.YtmlcmoaonaomfaaGreatDoor
namespace Go.Proofs.YtmlcmoaonaomfaaGreatDoor
open Go.RowKit
section
variable (f:BA) (rc:List S73) (i:BA) (fs:List S71) (bd:List Int) (sz:Int) (na:Nat) (ac:List S54) (ns:Nat) (st:List S87)
theorem q1k7 (ps:List BA) (hp:ps.length<=1000) (hv:∀ v∈ps,v.size<=2000000):∀ (m k:Nat) (mm:MM),k+m=ps.length->mm.length+m<=100000000->qgk ps.length ps.length k f rc i fs bd sz na ps mm ns ac st=some (((),ps.length,(ps.length:Int),(ps.length:Int),false),(f,rc,i,fs,bd,sz,(),na,()),ps,putP (ps.drop k) k mm,ns,ac,st):=by
 intro m;induction m with
 |zero =>
  intro k mm hk hs;have hk:k=ps.length:=by omega
  subst hk;refine qgm ?_;rw [List.drop_length,putP];simp only [qgq,gL,dL,lN,wI,p0,q8c,qm1,x25q,x26q,x27q,q5c];simp
 |succ m ih =>
  intro k mm hk hs;have hlt:k<ps.length:=by omega
  have e1:decide ((k:Int)<(ps.length:Int))=true:=by simp;omega
  have e0:decide ((0:Int)<=(k:Int))=true:=by simp
  have e2:IntKind.i64.wrap ((k:Int)+1)=((k+1:Nat):Int):=q1jr hlt (by omega)
  have e3:decide (k<ps.length)=true:=by simp [hlt]
  have hi:itoaP ((k+1:Nat):Int)=some (itB ((k+1:Nat):Int)):=by unfold itoaP;rw [if_pos (by omega)];rfl
  have g1:decide ((itB ((k+1:Nat):Int)).size<=maxLen)=true:=decide_eq_true (by have:=qq4 (k+1);unfold maxLen;omega)
  have g2:decide (ps[k].size<=maxLen)=true:=decide_eq_true (by have:=hv _ (y24q hlt);unfold maxLen;omega)
  have g3:decide (mm.length<maxLen)=true:=decide_eq_true (by unfold maxLen;omega)
  refine qgm ?_;rw [qbm hlt,putP];simp only [qgq,gL,dL,lN,wI,p0,q8c,qm1,x25q,x26q,x27q,q5c,e1,e0,e3,x20q,x3q,x4q,len_9 ps k hlt,qpz ps k hlt,qm4 hlt,x19q,e2,hi,x0q,g1,g2,g3];exact ih (k+1) _ (by omega) (by have:=qzr mm (itB ((k+1:Nat):Int)) ps[k];omega)
theorem q1k4 (t:S35) (ht:t.Text.size<=2000000) (l:List BA) (hl:l.length<=2000000) (hv:∀ v∈l,v.size<=2000000) (n:Nat) (hn:n<=1000000) (mm:MM) (hm:Inv n mm):∀ (m k:Nat),k+m=l.length->∃ x,qgc l.length l.length k f rc i fs bd sz na t.Kind t.Tests t.Name t.Pattern t.Text t.N l mm ns ac st=some x /\
  Sum.elim (λr=>(r.1,r.1,r.2)) (λr=>(false,false,r.2.1,r.2.2.2.2.1,r.2.2.2.2.2)) x=((mtcL t.Pattern t.Text mm (l.drop k)).1,(mtcL t.Pattern t.Text mm (l.drop k)).1,(f,rc,i,fs,bd,sz,(),na,()),(mtcL t.Pattern t.Text mm (l.drop k)).2,ns,ac,st):=by
 intro m;induction m with
 |zero =>
  intro k hk;have hk:k=l.length:=by omega
  subst hk
  refine ⟨.inr (((),(),l.length,(l.length:Int),(l.length:Int),false),(f,rc,i,fs,bd,sz,(),na,()),(t.Kind,t.Tests,t.Name,t.Pattern,t.Text,t.N),l,mm,ns,ac,st),qge (by
   simp only [qgj,z1m_t,gL,dL,wI,gL,dL,lN,p0,q8c,qm1,x25q,x26q,x27q,q5c];simp),?_⟩
  rw [List.drop_length];rfl
 |succ m ih =>
  intro k hk;have hlt:k<l.length:=by omega
  have e1:decide ((k:Int)<(l.length:Int))=true:=by simp;omega
  have e0:decide ((0:Int)<=(k:Int))=true:=by simp
  have e2:IntKind.i64.wrap ((k:Int)+1)=((k+1:Nat):Int):=q1jr hlt (by omega)
  have e3:decide (k<l.length)=true:=by simp [hlt]
  have hs:=hv _ (y24q hlt);have hM:=qyk t.Pattern t.Text l[k] (by omega) (by omega)
  obtain ⟨p1,p2,p3⟩:=qt2 t.Pattern t.Text l[k];obtain ⟨x,h1,h2⟩:=ih (k+1) (by omega)
  rw [qbm hlt,mtcL];generalize matchR t.Pattern t.Text l[k]=r at hM p1 p2 p3;cases hf:(r.1.2.2.1 != 0) with
  |true =>
   have hf':¬ (r.1.2.2.1=0/\r.1.1=true):=λh=>by rw [h.1] at hf;cases hf
   rw [if_neg hf'];refine ⟨x,qge ?_,h2⟩;simp only [qgj,z1m_t,gL,dL,wI,gL,dL,lN,p0,q8c,qm1,x25q,x26q,x27q,q5c,e1,e0,e3,x20q,x3q,x4q,len_9 l k hlt,qpz l k hlt,qm4 hlt,x19q,e2,hM,x0q,qi9,hf,show (true==false)=false from rfl,x1q,x21q]
   exact h1
  |false =>
   have hf0:r.1.2.2.1=0:=by simpa using hf
   cases hb:r.1.1 with
   |false =>
    rw [if_neg (by simp)]
    refine ⟨x,qge ?_,h2⟩;simp only [qgj,z1m_t,gL,dL,wI,gL,dL,lN,p0,q8c,qm1,x25q,x26q,x27q,q5c,e1,e0,e3,x20q,x3q,x4q,len_9 l k hlt,qpz l k hlt,qm4 hlt,x19q,e2,hM,x0q,qi9,hf,hb,x11q];exact h1
   |true =>
    rw [if_pos ⟨hf0,rfl⟩];cases h3:(t.Pattern==3) with
    |false =>
     have h3':¬ t.Pattern=3:=by simpa using h3
     refine ⟨.inl (true,(f,rc,i,fs,bd,sz,(),na,()),mm,ns,ac,st),qge ?_,by rw [if_neg h3'];rfl⟩
     simp only [qgj,z1m_t,gL,dL,wI,gL,dL,lN,p0,q8c,qm1,x25q,x26q,x27q,q5c,e1,e0,e3,x20q,x3q,x4q,len_9 l k hlt,qpz l k hlt,qm4 hlt,x19q,e2,hM,x0q,qi9,hf,hb,h3,x15q,x1q,x21q]
    |true =>
     have h3':t.Pattern=3:=by simpa using h3
     have hd:delP mm=some (noDig mm):=by unfold delP;rw [if_pos (y31q.2 λp hp=>decide_eq_true (hm.key p hp))];rfl
     have hln:=qux mm;have hma:=hm.all
     have hpc:=q1k7 f rc i fs bd sz na ac ns st r.2 p2 p3 r.2.length 0 (noDig mm) (by omega) (by omega)
     rw [x10q] at hpc;have hpc:qgk r.2.length r.2.length 0 f rc i fs bd sz na r.2 (noDig mm) ns ac st=_:=hpc
     refine ⟨.inl (true,(f,rc,i,fs,bd,sz,(),na,()),putP r.2 0 (noDig mm),ns,ac,st),qge ?_,by rw [if_pos h3'];rfl⟩
     simp only [qgj,z1m_t,gL,dL,wI,gL,dL,lN,p0,q8c,qm1,x25q,x26q,x27q,q5c,e1,e0,e3,x20q,x3q,x4q,len_9 l k hlt,qpz l k hlt,qm4 hlt,x19q,e2,hM,x0q,qi9,hf,hb,h3,x15q,x1q,x21q,hd,p1,hpc]
theorem q1k5 (t:S35) (ht:t.Text.size<=2000000) (l:List BA) (hl:l.length<=2000000) (hv:∀ v∈l,v.size<=2000000) (n:Nat) (hn:n<=1000000) (mm:MM) (hm:Inv n mm) :
  qg9 t.Kind t.Tests t.Name t.Pattern t.Text t.N l.length f rc i fs bd sz na l mm ns ac st=some ((mtcL t.Pattern t.Text mm l).1,(mtcL t.Pattern t.Text mm l).1,(f,rc,i,fs,bd,sz,(),na,()),(mtcL t.Pattern t.Text mm l).2,ns,ac,st):=by
 obtain ⟨x,h1,h2⟩:=q1k4 f rc i fs bd sz na ac ns st t ht l hl hv n hn mm hm l.length 0 (by omega)
 rw [x10q] at h2;have h1:qgc l.length l.length 0 f rc i fs bd sz na t.Kind t.Tests t.Name t.Pattern t.Text t.N l mm ns ac st=some x:=h1
 refine qgb ?_;simp only [qgu,gL,dL,qm1,x25q,x26q,x20q,h1,x0q];rcases x with x|x
 ·simp only [Sum.elim_inl] at h2 ⊢
  exact congrArg some h2
 ·simp only [Sum.elim_inr] at h2 ⊢
  exact congrArg some h2
theorem q1k3 (h:HdrOk fs) (n:BA) (hn:n.size<=2000000) (mm:MM) :
  qg2 n f rc i fs bd sz na mm ns ac st=some ((valsL fs n).length,(valsL fs n).length,valsL fs n,(f,rc,i,fs,bd,sz,(),na,()),mm,ns,ac,st):=by
 obtain ⟨r,e,h1,h2⟩:=get_s h n hn;refine qg4 ?_;simp only [qg8,gL,dL,qm1,x25q,x26q,x20q,e,x0q];rw [h2,h1]
end
section
variable (f:BA) (rc:List S73) (i:BA) (fs:List S71) (bd:List Int) (sz:Int) (na:Nat) (ac:List S54) (ns:Nat) (st:List S87)
theorem q1jy (t:S35) (mm:MM) (hl:rc.length<=60):∀ (m k:Nat) (acc:List BA),k+m=rc.length->acc.length<=k->qgy acc.length rc rc.length k f rc i fs bd sz na t.Kind t.Tests t.Name t.Pattern t.Text t.N acc mm ns ac st=some (((),(),acc.length+m,rc,(rc.length:Int),(rc.length:Int),false),(f,rc,i,fs,bd,sz,(),na,()),(t.Kind,t.Tests,t.Name,t.Pattern,t.Text,t.N),acc++(rc.drop k).map (λx=>x.Address),mm,ns,ac,st):=by
 intro m;induction m with
 |zero =>
  intro k acc hk ha;have hk:k=rc.length:=by omega
  subst hk;refine qh0 ?_;rw [List.drop_length];simp only [qh4,z1o,gL,dL,eC,wI,p0,aL,dQ,q8c,qm1,x25q,x26q,x27q,q3w,q49,isE_73,q57];simp
 |succ m ih =>
  intro k acc hk ha;have hlt:k<rc.length:=by omega
  have e1:decide ((k:Int)<(rc.length:Int))=true:=by simp;omega
  have e0:decide ((0:Int)<=(k:Int))=true:=by simp
  have e2:IntKind.i64.wrap ((k:Int)+1)=((k+1:Nat):Int):=q1jr hlt (by omega)
  have e3:decide (k<rc.length)=true:=by simp [hlt]
  have g1:decide ((acc.length+1+(acc.length+1) / 4+192)*16<=281474976710656)=true:=decide_eq_true (by omega)
  have g2:decide (acc.length+1<=9223372036854775807)=true:=decide_eq_true (by omega)
  have hi:=ih (k+1) (acc++[rc[k].Address]) (by omega) (by simp;omega)
  rw [x12q] at hi;refine qh0 ?_;rw [qbm hlt,y20q];simp only [qh4,z1o,gL,dL,eC,wI,p0,aL,dQ,q8c,qm1,x25q,x26q,x27q,q3w,q49,isE_73,q57,e1,e0,e3,x20q,x3q,x4q,qm4 hlt,x17q,x23q,x9q,x8q,x13q,x19q,g1,g2,e2];rw [show acc++rc[k].Address::(rc.drop (k+1)).map (λx=>x.Address)=acc++[rc[k].Address]++(rc.drop (k+1)).map (λx=>x.Address) by simp,show acc.length+(m+1)=acc.length+[rc[k].Address].length+m by simp;omega]
  exact hi
def q1k9 (t:S35):Prop:=∀ (n:Nat) (mm:MM),n<=1000000->Inv n mm->qgv t.Kind t.Tests t.Name t.Pattern t.Text t.N f rc i fs bd sz na mm ns ac st=some ((tsT f rc fs sz t mm).1,(tsT f rc fs sz t mm).1,(f,rc,i,fs,bd,sz,(),na,()),(tsT f rc fs sz t mm).2,ns,ac,st)
theorem q1jz (t:S35) (n:Nat) (hn:n<=1000000) (hl:t.Tests.length<=2000000) (ih0:∀ x∈t.Tests,q1k9 f rc i fs bd sz na ac ns st x):∀ (m k:Nat) (mm:MM),k+m=t.Tests.length->Inv n mm->∃ x,qh5 t.Tests t.Tests.length k f rc i fs bd sz na t.Kind t.Tests t.Name t.Pattern t.Text t.N mm ns ac st=some x /\
  Sum.elim (λr=>(r.1,r.1,r.2)) (λr=>((r.2.2.1.1==3),(r.2.2.1.1==3),r.2.1,r.2.2.2.1,r.2.2.2.2)) x=((tsA f rc fs sz t.Kind (t.Tests.drop k) mm).1,(tsA f rc fs sz t.Kind (t.Tests.drop k) mm).1,(f,rc,i,fs,bd,sz,(),na,()),(tsA f rc fs sz t.Kind (t.Tests.drop k) mm).2,ns,ac,st):=by
 intro m;induction m with
 |zero =>
  intro k mm hk hI;have hk:k=t.Tests.length:=by omega
  subst hk
  refine ⟨.inr (((),(),t.Tests,(t.Tests.length:Int),(t.Tests.length:Int),false),(f,rc,i,fs,bd,sz,(),na,()),(t.Kind,t.Tests,t.Name,t.Pattern,t.Text,t.N),mm,ns,ac,st),qh7 (by
   simp only [qhc,z1n,gL,dL,eC,wI,p0,uL,q8c,qm1,x25q,x26q,x27q,qpt,q4h,q4i,q4j,q4k,q4l,q4m];simp),?_⟩
  rw [List.drop_length,tsA];rfl
 |succ m ih =>
  intro k mm hk hI;have hlt:k<t.Tests.length:=by omega
  have e1:decide ((k:Int)<(t.Tests.length:Int))=true:=by simp;omega
  have e0:decide ((0:Int)<=(k:Int))=true:=by simp
  have e2:IntKind.i64.wrap ((k:Int)+1)=((k+1:Nat):Int):=q1jr hlt (by omega)
  have e3:decide (k<t.Tests.length)=true:=by simp [hlt]
  have h0:=ih0 t.Tests[k] (y24q hlt) n mm hn hI;have hI2:=q1in f rc fs sz n t.Tests[k] mm hI
  rw [qbm hlt,tsA];generalize tsT f rc fs sz t.Tests[k] mm=u at h0 hI2;obtain ⟨x,h1,h2⟩:=ih (k+1) u.2 (by omega) hI2
  by_cases hb:u.1=(t.Kind==4)
  ·have hb':(u.1==(t.Kind==4))=true:=by simpa using hb
   rw [if_pos hb];refine ⟨.inl ((t.Kind==4),(f,rc,i,fs,bd,sz,(),na,()),u.2,ns,ac,st),qh7 ?_,rfl⟩;simp only [qhc,z1n,gL,dL,eC,wI,p0,uL,q8c,qm1,x25q,x26q,x27q,qpt,q4h,q4i,q4j,q4k,q4l,q4m,e1,e0,e3,x20q,x3q,x4q,qm4 hlt,h0,x0q,hb']
  ·have hb':(u.1==(t.Kind==4))=false:=by simpa using hb
   rw [if_neg hb];refine ⟨x,qh7 ?_,h2⟩;simp only [qhc,z1n,gL,dL,eC,wI,p0,uL,q8c,qm1,x25q,x26q,x27q,qpt,q4h,q4i,q4j,q4k,q4l,q4m,e1,e0,e3,x20q,x3q,x4q,qm4 hlt,h0,x0q,hb',x1q,x21q,e2];exact h1
theorem q1ka (hH:HdrOk fs) (hE:envB f rc):∀ (q:Nat) (t:S35),tzT t=q->okT t->okvT t->t.Tests.length<=2000000->q1k9 f rc i fs bd sz na ac ns st t:=by
 intro q;induction q using Nat.strongRecOn with
 |_ q ihq =>
  intro t hq ho hv hlen n mm hn hI;subst hq;obtain ⟨hl,hol⟩:=(okT_eq t).1 ho;obtain ⟨⟨k1,k9⟩,hinn⟩:=qw8 hv;obtain ⟨ht1,ht2⟩:=qw9 hv;obtain ⟨he1,he2,he3⟩:=hE;have hkid:∀ x∈t.Tests,x.Tests.length<=60:=λx hx=>by
   have:=(qw8 (qw7 hv hx)).2;unfold innerB at this;split at this
   ·have:x.Tests.length=1:=by simpa using this
    omega
   ·split at this
    ·simp at this;omega
    ·have:x.Tests.length=0:=by simpa using this
     omega
  have ihc:∀ x∈t.Tests,q1k9 f rc i fs bd sz na ac ns st x:=λx hx=>ihq (tzT x) (by have:=tz_mem hx;have e:=tzT_eq t;omega) x rfl (qw0 hol hx) (qw7 hv hx) (by have:=hkid x hx;omega)
  have hvl:(valsL fs t.Name).length<=60:=Nat.le_trans (q1j5 _ _) hH.len;have hvs:∀ v∈valsL fs t.Name,v.size<=2000000:=λv hv=>by
   unfold valsL at hv;obtain ⟨x,hx,rfl⟩:=List.mem_map.1 hv;have:=(hH.all x (List.mem_filter.1 hx).1).2
   omega
  refine qgx ?_;rw [tsT_eq];by_cases h2:t.Kind=2
  ·rw [if_pos h2]
   cases hts:t.Tests with
   |nil =>unfold innerB at hinn;rw [if_pos h2,hts] at hinn;cases hinn
   |cons x l =>
    have hx:x∈t.Tests:=by rw [hts];exact List.mem_cons_self ..
    have h0:=ihc x hx n mm hn hI;rw [tsH];have c2:(t.Kind==2)=true:=by simpa using h2
    simp only [qhg,q1kd,gL,dL,lN,z1q,gL,dL,lN,eC,uL,q8c,qm1,x25q,x26q,x27q,qpt,q4h,q4i,q4j,q4k,q4l,q4m,c2,x20q];simp only [Int.toNat_zero,x9q,List.getD_cons_zero,h0,x0q];simp
  have c2:(t.Kind==2)=false:=by simpa using h2
  rw [if_neg h2];by_cases h3:t.Kind=3
  ·rw [if_pos (.inl h3)]
   obtain ⟨x,h1,h2'⟩:=q1jz f rc i fs bd sz na ac ns st t n hn hlen ihc t.Tests.length 0 mm (by omega) hI
   rw [x10q] at h2';have h1:qh5 t.Tests t.Tests.length 0 f rc i fs bd sz na t.Kind t.Tests t.Name t.Pattern t.Text t.N mm ns ac st=some x:=h1
   have c3:(t.Kind==3)=true:=by simpa using h3
   simp only [qhg,q1kd,gL,dL,lN,z1q,gL,dL,lN,eC,uL,q8c,qm1,x25q,x26q,x27q,qpt,q4h,q4i,q4j,q4k,q4l,q4m,c2,c3,x20q,x1q,x21q,h1,x0q];rw [←h2'];rcases x with x|x <;> rfl
  have c3:(t.Kind==3)=false:=by simpa using h3
  by_cases h4:t.Kind=4
  ·rw [if_pos (.inr h4)]
   obtain ⟨x,h1,h2'⟩:=q1jz f rc i fs bd sz na ac ns st t n hn hlen ihc t.Tests.length 0 mm (by omega) hI
   rw [x10q] at h2';have h1:qh5 t.Tests t.Tests.length 0 f rc i fs bd sz na t.Kind t.Tests t.Name t.Pattern t.Text t.N mm ns ac st=some x:=h1
   have c4:(t.Kind==4)=true:=by simpa using h4
   simp only [qhg,q1kd,gL,dL,lN,z1q,gL,dL,lN,eC,uL,q8c,qm1,x25q,x26q,x27q,qpt,q4h,q4i,q4j,q4k,q4l,q4m,c2,c3,c4,x20q,x1q,x21q,h1,x0q];rw [←h2'];rcases x with x|x <;> rfl
  have c4:(t.Kind==4)=false:=by simpa using h4
  rw [if_neg (by rintro (h|h);exact h3 h;exact h4 h)]
  by_cases h5:t.Kind=5
  ·rw [if_pos h5]
   have c5:(t.Kind==5)=true:=by simpa using h5
   have hf:=q1k3 f rc i fs bd sz na ac ns st hH t.Name (by omega) mm
   have hm:=q1k5 f rc i fs bd sz na ac ns st t (by omega) (valsL fs t.Name) (by omega) hvs n hn mm hI
   simp only [qhg,q1kd,gL,dL,lN,z1q,gL,dL,lN,eC,uL,q8c,qm1,x25q,x26q,x27q,qpt,q4h,q4i,q4j,q4k,q4l,q4m,c2,c3,c4,c5,x20q,x1q,x21q,hf,x0q,hm]
  have c5:(t.Kind==5)=false:=by simpa using h5
  rw [if_neg h5];by_cases h6:t.Kind=6
  ·rw [if_pos h6]
   have c6:(t.Kind==6)=true:=by simpa using h6
   have hm:=q1k5 f rc i fs bd sz na ac ns st t (by omega) [f] (by simp) (λv hv=>by obtain rfl:v=f:=(by simpa using hv);omega) n hn mm hI
   have hm:qg9 t.Kind t.Tests t.Name t.Pattern t.Text t.N 1 f rc i fs bd sz na [f] mm ns ac st=_:=hm;have hd:qby.decL [[C.str f]]=[f]:=rfl
   have hi:qby.isL [[C.str f]]=true:=rfl;simp only [qhg,q1kd,gL,dL,lN,z1q,gL,dL,lN,eC,uL,q8c,qm1,x25q,x26q,x27q,qpt,q4h,q4i,q4j,q4k,q4l,q4m,c2,c3,c4,c5,c6,x20q,x1q,x21q,hd]
   first
    |(rw [hm];rfl)
    |(simp only [hm,x0q])
  have c6:(t.Kind==6)=false:=by simpa using h6
  rw [if_neg h6];by_cases h7:t.Kind=7
  ·rw [if_pos h7]
   have c7:(t.Kind==7)=true:=by simpa using h7
   have ha:=q1jy f rc i fs bd sz na ac ns st t mm he2 rc.length 0 [] (by omega) (by simp)
   have ha:qgy 0 rc rc.length 0 f rc i fs bd sz na t.Kind t.Tests t.Name t.Pattern t.Text t.N [] mm ns ac st=_:=ha;rw [x10q,y14q,x8q,x13q] at ha;have hm:=q1k5 f rc i fs bd sz na ac ns st t (by omega) (rc.map λx=>x.Address) (by simp;omega) (λv hv=>by
    obtain ⟨x,hx,rfl⟩:=List.mem_map.1 hv;have:=he3 x hx
    omega) n hn mm hI
   rw [y36q] at hm;simp only [qhg,q1kd,gL,dL,lN,z1q,gL,dL,lN,eC,uL,q8c,qm1,x25q,x26q,x27q,qpt,q4h,q4i,q4j,q4k,q4l,q4m,qj,c2,c3,c4,c5,c6,c7,x20q,x1q,x21q,ha,x0q,hm]
  have c7:(t.Kind==7)=false:=by simpa using h7
  rw [if_neg h7];by_cases h8:t.Kind=8
  ·rw [if_pos h8]
   have c8:(t.Kind==8)=true:=by simpa using h8
   simp only [qhg,q1kd,gL,dL,lN,z1q,gL,dL,lN,eC,uL,q8c,qm1,x25q,x26q,x27q,qpt,q4h,q4i,q4j,q4k,q4l,q4m,c2,c3,c4,c5,c6,c7,c8,x20q,x1q,x21q]
  have c8:(t.Kind==8)=false:=by simpa using h8
  rw [if_neg h8];by_cases h9:t.Kind=9
  ·rw [if_pos h9]
   have c9:(t.Kind==9)=true:=by simpa using h9
   have hf:=q1k3 f rc i fs bd sz na ac ns st hH t.Name (by omega) mm
   simp only [qhg,q1kd,gL,dL,lN,z1q,gL,dL,lN,eC,uL,q8c,qm1,x25q,x26q,x27q,qpt,q4h,q4i,q4j,q4k,q4l,q4m,c2,c3,c4,c5,c6,c7,c8,c9,x20q,x1q,x21q,hf,x0q]
  have c9:(t.Kind==9)=false:=by simpa using h9
  rw [if_neg h9];simp only [qhg,q1kd,gL,dL,lN,z1q,gL,dL,lN,eC,uL,q8c,qm1,x25q,x26q,x27q,qpt,q4h,q4i,q4j,q4k,q4l,q4m,c2,c3,c4,c5,c6,c7,c8,c9,x20q,x1q,x21q]
end
theorem x_note (i:Int) (b:Bool) (s:BA) (st:List S87) (h:st.length<=10000):qhp i b s st.length st=some ((),(),(st++[(⟨i,b,s⟩:S87)]).length,st++[(⟨i,b,s⟩:S87)]):=by
 have g1:decide ((st.length+1+(st.length+1) / 4+192)*32<=281474976710656)=true:=decide_eq_true (by omega)
 have g2:decide (st.length+1<=9223372036854775807)=true:=decide_eq_true (by omega)
 refine qhr ?_;simp only [qhv,aL,dQ,qm1,x25q,x26q,all_87,apd_87,x17q,x23q,x9q,x8q,x13q,x19q,x4q,g1,g2,x20q,x12q]
section
variable (f:BA) (rc:List S73) (e:BA) (fs:List S71) (bd:List Int) (sz:Int)
abbrev q1k8 (m:MM) (a:List S54) (st:List S87):=(((f,rc,e,fs,bd,sz,(),a.length,()),m,st.length,a,st):(BA×List S73×BA×List S71×List Int×Int×Unit×Nat×Unit)×MM×Nat×List S54×List S87)
def q1k0 (s:List S38):Prop:=∀ (i:Int) (n:Nat) (m:MM) (a:List S54) (st:List S87),0<=i->i+szL s<=1000->n+szL s<=1000->a.length+szL s<=1000->st.length+szL s<=1000->Inv n m ->
 qfn s i f rc e fs bd sz a.length m st.length a st=some ((exeL f rc fs sz s i m a st).1,(exeL f rc fs sz s i m a st).1,q1k8 f rc e fs bd sz (exeL f rc fs sz s i m a st).2.1 (exeL f rc fs sz s i m a st).2.2.1 (exeL f rc fs sz s i m a st).2.2.2)
theorem q1k1 (s:List S38) (hl:s.length<=big) (ho:okL s) (hv:okvL s) (hT:∀ r∈s,r.Kind=1->∀ na ac ns st,q1k9 f rc e fs bd sz na ac ns st (tOf r)) (ihE:∀ r∈s,q1k0 f rc e fs bd sz r.Then/\q1k0 f rc e fs bd sz r.Else) :
  ∀ (q k:Nat) (i:Int) (n:Nat) (m:MM) (a:List S54) (st:List S87),k+q=s.length->0<=i->i+szL (s.drop k)<=1000->n+szL (s.drop k)<=1000->a.length+szL (s.drop k)<=1000->st.length+szL (s.drop k)<=1000->Inv n m ->
  ∃ x,qfq i s s.length k f rc e fs bd sz a.length m st.length a st=some x/\Sum.elim (λr=>(r.1,r.2)) (λr=>(true,r.2)) x=((exeL f rc fs sz (s.drop k) i m a st).1,q1k8 f rc e fs bd sz (exeL f rc fs sz (s.drop k) i m a st).2.1 (exeL f rc fs sz (s.drop k) i m a st).2.2.1 (exeL f rc fs sz (s.drop k) i m a st).2.2.2):=by
 intro q;induction q with
 |zero =>
  intro k i n m a st hk h0 h1 h2 h3 h4 hI;have hk:k=s.length:=by omega
  subst hk
  refine ⟨.inr (((),i,s,(s.length:Int),(s.length:Int),false),q1k8 f rc e fs bd sz m a st),qfs (by
   simp only [qfx,z1r,z1s,z1t,z1u,z1v,gL,dL,eC,wI,p0,aL,dQ,uL,q8c,qm1,x25q,x26q,x27q,qpu,q4o,q4p,q4t,q4u,q4v,q4w,q4x,q4y,q4z,q50,q4q,q4r,q4s,q3v,q48];simp),?_⟩
  rw [List.drop_length,exeL];rfl
 |succ q ihm =>
  intro k i n m a st hk h0 h1 h2 h3 h4 hI;have hlt:k<s.length:=by omega
  have e1:decide ((k:Int)<(s.length:Int))=true:=by simp;omega
  have e0:decide ((0:Int)<=(k:Int))=true:=by simp
  have e2:IntKind.i64.wrap ((k:Int)+1)=((k+1:Nat):Int):=q1jr hlt (by unfold big at hl;omega)
  have hd2:decide (k<s.length)=true:=by simp [hlt]
  have hmem:s[k]∈s:=y24q hlt;have hdr:szL (s.drop k)=szR s[k]+szL (s.drop (k+1)):=by rw [qbm hlt];rfl
  rw [hdr] at h1 h2 h3 h4;have hsz:=q1f4 s[k]
  obtain ⟨_,⟨ht1,ht2⟩,⟨he1,he2⟩,_⟩:=(okR_eq s[k]).1 (qvz ho hmem);obtain ⟨hh,hvt,hve⟩:=okvR hv hmem;obtain ⟨hkk,htx,hvar,hnil⟩:=q11k hh;obtain ⟨iT,iE⟩:=ihE s[k] hmem;have hcT:=size_s s[k].Then ht1 ht2
  have hcE:=size_s s[k].Else he1 he2;rw [q1jq (by omega)] at hcT hcE
  have w1:IntKind.i64.wrap (i+1)=i+1:=q1jq (by omega)
  have w2:IntKind.i64.wrap (i+1+(szL s[k].Then:Int))=i+1+szL s[k].Then:=q1jq (by omega)
  have w3:IntKind.i64.wrap (1+(szL s[k].Then:Int))=1+szL s[k].Then:=q1jq (by omega)
  have w4:IntKind.i64.wrap (1+(szL s[k].Then:Int)+(szL s[k].Else:Int))=1+szL s[k].Then+szL s[k].Else:=q1jq (by omega)
  have w5:IntKind.i64.wrap (i+(1+(szL s[k].Then:Int)+(szL s[k].Else:Int)))=i+szR s[k]:=by rw [q1jq (by omega)];omega
  have hst:st.length<=10000:=by omega
  have nt:=x_note i true (ByteArray.mk (List.toArray [])) st hst;have nf:=x_note i false (ByteArray.mk (List.toArray [])) st hst
  have nx:=x_note i false (exT m s[k].Text) st hst;have nt:_=some ((),(),(st++[(⟨i,true,noTx⟩:S87)]).length,st++[(⟨i,true,noTx⟩:S87)]):=nt
  have nf:_=some ((),(),(st++[(⟨i,false,noTx⟩:S87)]).length,st++[(⟨i,false,noTx⟩:S87)]):=nf;have hma:m.length<=10000:=by have:=hI.all;omega
  rw [qbm hlt,exeL];by_cases k1:s[k].Kind=1
  ·have c1:(s[k].Kind==1)=true:=by simpa using k1
   have ht:qgv s[k].Test_Kind s[k].Test_Tests s[k].Test_Name s[k].Test_Pattern s[k].Test_Text s[k].Test_N f rc e fs bd sz a.length m st.length a st=_:=hT s[k] hmem k1 a.length a st.length st n m (by omega) hI
   have hI2:=q1in f rc fs sz n (tOf s[k]) m hI;rw [exR_eq,if_pos k1];generalize tsT f rc fs sz (tOf s[k]) m=u at ht hI2;obtain ⟨ub,um⟩:=u;cases ub with
   |true =>
    rw [if_pos rfl];have hp:=iT (i+1) n um a (st++[⟨i,true,noTx⟩]) (by omega) (by omega) (by omega) (by omega) (by simp;omega) hI2
    have hinv:=qhi f rc fs sz _ s[k].Then rfl hvt n (i+1) um a (st++[⟨i,true,noTx⟩]) hI2;generalize exeL f rc fs sz s[k].Then (i+1) um a (st++[⟨i,true,noTx⟩])=v at hp hinv;obtain ⟨vb,vm,va,vs⟩:=v;obtain ⟨g1,g2,g3⟩:=hinv;simp only [x12q,List.length_singleton] at g1 g2 g3;cases vb with
    |false =>simp only [x1q,x21q];refine ⟨.inl (false,q1k8 f rc e fs bd sz vm va vs),qfs ?_,rfl⟩;simp only [qfx,z1r,z1s,z1t,z1u,z1v,gL,dL,eC,wI,p0,aL,dQ,uL,q8c,qm1,x25q,x26q,x27q,qpu,q4o,q4p,q4t,q4u,q4v,q4w,q4x,q4y,q4z,q50,q4q,q4r,q4s,q3v,q48,e1,e0,x20q,x3q,hd2,x4q,qm4 hlt,c1,ht,nt,nf,x0q,x15q,x11q,x1q,x21q,w1,hp,q1k8]
    |true =>
     rw [if_pos rfl];obtain ⟨x,x1,x2⟩:=ihm (k+1) (i+szR s[k]) (n+szL s[k].Then) vm va vs (by omega) (by omega) (by omega) (by omega) (by omega) (by omega) g1
     refine ⟨x,qfs ?_,x2⟩;simp only [qfx,z1r,z1s,z1t,z1u,z1v,gL,dL,eC,wI,p0,aL,dQ,uL,q8c,qm1,x25q,x26q,x27q,qpu,q4o,q4p,q4t,q4u,q4v,q4w,q4x,q4y,q4z,q50,q4q,q4r,q4s,q3v,q48,e1,e0,x20q,x3q,hd2,x4q,qm4 hlt,c1,ht,nt,nf,x0q,x15q,x1q,x21q,w1,hp,q1k8,hcT,hcE,w3,w4,w5,e2];exact x1
   |false =>
    simp only [x1q,x21q];have hp:=iE (i+1+szL s[k].Then) n um a (st++[⟨i,false,noTx⟩]) (by omega) (by omega) (by omega) (by omega) (by simp;omega) hI2
    have hinv:=qhi f rc fs sz _ s[k].Else rfl hve n (i+1+szL s[k].Then) um a (st++[⟨i,false,noTx⟩]) hI2;generalize exeL f rc fs sz s[k].Else (i+1+szL s[k].Then) um a (st++[⟨i,false,noTx⟩])=v at hp hinv;obtain ⟨vb,vm,va,vs⟩:=v;obtain ⟨g1,g2,g3⟩:=hinv;simp only [x12q,List.length_singleton] at g1 g2 g3;cases vb with
    |false =>simp only [x1q,x21q];refine ⟨.inl (false,q1k8 f rc e fs bd sz vm va vs),qfs ?_,rfl⟩;simp only [qfx,z1r,z1s,z1t,z1u,z1v,gL,dL,eC,wI,p0,aL,dQ,uL,q8c,qm1,x25q,x26q,x27q,qpu,q4o,q4p,q4t,q4u,q4v,q4w,q4x,q4y,q4z,q50,q4q,q4r,q4s,q3v,q48,e1,e0,x20q,x3q,hd2,x4q,qm4 hlt,c1,ht,nf,x0q,x11q,w1,hcT,w2,hp,q1k8]
    |true =>
     rw [if_pos rfl];obtain ⟨x,x1,x2⟩:=ihm (k+1) (i+szR s[k]) (n+szL s[k].Else) vm va vs (by omega) (by omega) (by omega) (by omega) (by omega) (by omega) g1
     refine ⟨x,qfs ?_,x2⟩;simp only [qfx,z1r,z1s,z1t,z1u,z1v,gL,dL,eC,wI,p0,aL,dQ,uL,q8c,qm1,x25q,x26q,x27q,qpu,q4o,q4p,q4t,q4u,q4v,q4w,q4x,q4y,q4z,q50,q4q,q4r,q4s,q3v,q48,e1,e0,x20q,x3q,hd2,x4q,qm4 hlt,c1,ht,nf,x0q,x15q,x11q,x1q,x21q,w1,hcT,w2,hp,q1k8,hcE,w3,w4,w5,e2];exact x1
  ·have c1:(s[k].Kind==1)=false:=by simpa using k1
   obtain ⟨n1,n2⟩:=hnil k1;have htx':=htx k1
   have hex:=expP_s hI.val s[k].Text (by omega)
   have hxs:=qhj m s[k].Text;have hR1:szR s[k]=1:=by rw [hsz,n1,n2];rfl
   rw [exR_eq,if_neg k1];by_cases k2:s[k].Kind=2
   ·have c2:(s[k].Kind==2)=true:=by simpa using k2
    have g1:decide ((a.length+1+(a.length+1) / 4+192)*32<=281474976710656)=true:=decide_eq_true (by omega)
    have g2:decide (a.length+1<=9223372036854775807)=true:=decide_eq_true (by omega)
    rw [if_pos k2,if_pos rfl];obtain ⟨x,x1,x2⟩:=ihm (k+1) (i+szR s[k]) n m (a++[⟨s[k].Act,exT m s[k].Text,s[k].N⟩]) (st++[⟨i,false,exT m s[k].Text⟩]) (by omega) (by omega) (by omega) (by omega) (by simp;omega) (by simp;omega) hI
    rw [x12q] at x1;refine ⟨x,qfs ?_,x2⟩;simp only [qfx,z1r,z1s,z1t,z1u,z1v,gL,dL,eC,wI,p0,aL,dQ,uL,q8c,qm1,x25q,x26q,x27q,qpu,q4o,q4p,q4t,q4u,q4v,q4w,q4x,q4y,q4z,q50,q4q,q4r,q4s,q3v,q48,e1,e0,x20q,x3q,hd2,x4q,qm4 hlt,c1,c2,x1q,x21q,hex,nf,nx,x0q,x17q,x23q,x9q,x8q,x13q,x19q,g1,g2,hcT,hcE,w3,w4,w5,e2];exact x1
   ·have c2:(s[k].Kind==2)=false:=by simpa using k2
    rw [if_neg k2];by_cases k3:s[k].Kind=3
    ·have c3:(s[k].Kind==3)=true:=by simpa using k3
     have hvb:=hvar k3;have hnm:s[k].Name.size≠0/\s[k].Name.size<=60:=by unfold varB at hvb;simp at hvb;omega
     have g1:decide (s[k].Name.size<=maxLen)=true:=decide_eq_true (by unfold maxLen;omega)
     have g2:decide ((exT m s[k].Text).size<=maxLen)=true:=decide_eq_true (by unfold maxLen;omega)
     have g3:decide (m.length<maxLen)=true:=decide_eq_true (by unfold maxLen;omega)
     rw [if_pos k3,if_pos rfl];obtain ⟨x,x1,x2⟩:=ihm (k+1) (i+szR s[k]) (n+1) (putM m s[k].Name (exT m s[k].Text)) a (st++[⟨i,false,exT m s[k].Text⟩]) (by omega) (by omega) (by omega) (by omega) (by omega) (by simp;omega) (hI.set hnm.1 (by omega))
     refine ⟨x,qfs ?_,x2⟩;simp only [qfx,z1r,z1s,z1t,z1u,z1v,gL,dL,eC,wI,p0,aL,dQ,uL,q8c,qm1,x25q,x26q,x27q,qpu,q4o,q4p,q4t,q4u,q4v,q4w,q4x,q4y,q4z,q50,q4q,q4r,q4s,q3v,q48,e1,e0,x20q,x3q,hd2,x4q,qm4 hlt,c1,c2,c3,x1q,x21q,hex,nf,nx,x0q,g1,g2,g3,hcT,hcE,w3,w4,w5,e2];exact x1
    ·have c3:(s[k].Kind==3)=false:=by simpa using k3
     rw [if_neg k3];simp only [x1q,x21q];refine ⟨.inl (false,q1k8 f rc e fs bd sz m a (st++[⟨i,false,noTx⟩])),qfs ?_,rfl⟩;simp only [qfx,z1r,z1s,z1t,z1u,z1v,gL,dL,eC,wI,p0,aL,dQ,uL,q8c,qm1,x25q,x26q,x27q,qpu,q4o,q4p,q4t,q4u,q4v,q4w,q4x,q4y,q4z,q50,q4q,q4r,q4s,q3v,q48,e1,e0,x20q,x3q,hd2,x4q,qm4 hlt,c1,c2,c3,x1q,x21q,nf,x0q,q1k8]
theorem q1k2 (hH:HdrOk fs) (hE:envB f rc):∀ (q:Nat) (s:List S38),szL s=q->s.length<=big->okL s->okvL s->q1k0 f rc e fs bd sz s:=by
 intro q;induction q using Nat.strongRecOn with
 |_ q ihq =>
  intro s hq hl ho hv i n m a st h0 h1 h2 h3 h4 hI;subst hq;have hT:∀ r∈s,r.Kind=1->∀ na ac ns st,q1k9 f rc e fs bd sz na ac ns st (tOf r):=λr hr hk na ac ns st=>by
   have hok:=((okR_eq r).1 (qvz ho hr)).1;have hvt:=qw6 (okvR hv hr).1 (by simpa using hk)
   have hin:=(qw8 hvt).2;refine q1ka f rc e fs bd sz na ac ns st hH hE _ (tOf r) rfl hok hvt ?_;unfold innerB at hin;split at hin
   ·have:(tOf r).Tests.length=1:=by simpa using hin
    omega
   ·split at hin
    ·simp at hin;omega
    ·have:(tOf r).Tests.length=0:=by simpa using hin
     omega
  obtain ⟨x,x1,x2⟩:=q1k1 f rc e fs bd sz s hl ho hv hT (λr hr=>by
   obtain ⟨_,⟨ht1,ht2⟩,⟨he1,he2⟩,_⟩:=(okR_eq r).1 (qvz ho hr);obtain ⟨_,hvt,hve⟩:=okvR hv hr;exact ⟨ihq (szL r.Then) (q1f6 hr) r.Then rfl ht1 ht2 hvt,ihq (szL r.Else) (q1f5 hr) r.Else rfl he1 he2 hve⟩) s.length 0 i n m a st (by omega) h0 (by rw [x10q];exact h1) (by rw [x10q];exact h2) (by rw [x10q];exact h3) (by rw [x10q];exact h4) hI
  rw [x10q] at x2;have x1:qfq i s s.length 0 f rc e fs bd sz a.length m st.length a st=some x:=x1
  refine qfp ?_;simp only [qg1,gL,dL,lN,qm1,x25q,x26q,x27q,x20q,x1,x0q];generalize exeL f rc fs sz s i m a st=v at x2;obtain ⟨vb,vm,va,vs⟩:=v;rcases x with x|x
  ·simp only [Sum.elim_inl] at x2 ⊢
   injection x2 with y1 y2;rw [y2,y1]
  ·simp only [Sum.elim_inr] at x2 ⊢
   injection x2 with y1 y2;rw [y2];have y1:true=vb:=y1
   rw [←y1]
end
noncomputable def runS (s:List S38) (f:BA) (rc:List S73) (e:BA) (fs:List S71) (bd:List Int):List S87:=if (runF s f rc e fs bd).1≠0 then [] else (theRun s f rc fs bd).2.2.2
theorem q1k6 {s:List S38} {f:BA} {rc:List S73} {bd:List Int} (h:MOk s f rc bd) (e:BA) (fs:List S71) :
  qfg s f rc e fs bd 0 []=some (((runA s f rc e fs bd).length,runF s f rc e fs bd),((runA s f rc e fs bd).length,runF s f rc e fs bd),runA s f rc e fs bd,(runS s f rc e fs bd).length,runS s f rc e fs bd):=by
 have hv:=q1j3 s h.len h.ok;obtain ⟨he1,he2⟩:=envF_s h e;obtain ⟨hm1,hm2,hm3⟩:=msgF_s fs h.bl;refine qfi ?_;simp only [qfm,gL,dL,aL,dQ,q8c,qm1,x25q,x26q,q3v,q48,qj,x20q,hv,x0q,qi9,qib,none_s];by_cases h1:(scrF s).1=0
 ·have c1:((scrF s).1 != 0)=false:=by simpa using h1
  simp only [c1,x1q,x21q,he1,x0q];by_cases h2:(envF f rc e).1=0
  ·have c2:((envF f rc e).1 != 0)=false:=by simpa using h2
   simp only [c2,x1q,x21q,hm1,x0q];by_cases h3:(msgF fs bd).1.2.1=0
   ·have c3:((msgF fs bd).1.2.1 != 0)=false:=by simpa using h3
    have hF:runF s f rc e fs bd=(0,0):=by unfold runF;rw [if_neg (by simp [h1]),if_neg (by simp [h2]),if_neg (by simp [h3])]
    obtain ⟨hvl,h100⟩:=val_ok h1;have hx:=q1k2 f rc e fs bd (((msgF fs bd).1.1:Nat):Int) (hm2 h3) (he2 h2) _ s rfl h.len h.ok hvl 0 0 [] [] [] (by omega) (by omega) (by omega) (by simp;omega) (by simp;omega) Inv.nil
    have hx:qfn s 0 f rc e fs bd (((msgF fs bd).1.1:Nat):Int) 0 [] 0 [] []=some ((theRun s f rc fs bd).1,(theRun s f rc fs bd).1,q1k8 f rc e fs bd (((msgF fs bd).1.1:Nat):Int) (theRun s f rc fs bd).2.1 (theRun s f rc fs bd).2.2.1 (theRun s f rc fs bd).2.2.2):=hx;have hinv:=q1i5 f rc fs bd h1
    obtain ⟨_,hal,_⟩:=hinv;simp only [x8q,x13q] at hal;have hA:runA s f rc e fs bd=finA (theRun s f rc fs bd).2.2.1:=by unfold runA;rw [hF,if_neg (by simp)]
    have hS:runS s f rc e fs bd=(theRun s f rc fs bd).2.2.2:=by unfold runS;rw [hF,if_neg (by simp)]
    rw [hF,hA,hS];simp only [c3,x1q,x21q,hx,x0q,q1k8];generalize (theRun s f rc fs bd).2.2.1=a at hal;have hd:=qb5 a (by unfold big;omega)
    simp only [hd,x0q];unfold finA;cases hb:a.any λx=>dB x.Kind with
    |true=>simp
    |false =>
     have g1:decide ((a.length+1+(a.length+1) / 4+192)*32<=281474976710656)=true:=decide_eq_true (by omega)
     have g2:decide (a.length+1<=9223372036854775807)=true:=decide_eq_true (by omega)
     simp only [x11q,x20q,x17q,x23q,x9q,x8q,x13q,x19q,x4q,g1,g2,x1q,x21q,x12q]
   ·have c3:((msgF fs bd).1.2.1 != 0)=true:=by simpa using h3
    have hF:runF s f rc e fs bd=((msgF fs bd).1.2.1,-2):=by unfold runF;rw [if_neg (by simp [h1]),if_neg (by simp [h2]),if_pos h3]
    have hA:runA s f rc e fs bd=[]:=by unfold runA;rw [hF,if_pos h3]
    have hS:runS s f rc e fs bd=[]:=by unfold runS;rw [hF,if_pos h3]
    rw [hF,hA,hS];simp only [c3,x20q,x8q]
  ·have c2:((envF f rc e).1 != 0)=true:=by simpa using h2
   have hF:runF s f rc e fs bd=((envF f rc e).1,-3):=by unfold runF;rw [if_neg (by simp [h1]),if_pos h2]
   have hA:runA s f rc e fs bd=[]:=by unfold runA;rw [hF,if_pos h2]
   have hS:runS s f rc e fs bd=[]:=by unfold runS;rw [hF,if_pos h2]
   rw [hF,hA,hS];simp only [c2,x20q,x8q]
 ·have c1:((scrF s).1 != 0)=true:=by simpa using h1
  have hF:runF s f rc e fs bd=scrF s:=by unfold runF;rw [if_pos h1]
  have hA:runA s f rc e fs bd=[]:=by unfold runA;rw [hF,if_pos h1]
  have hS:runS s f rc e fs bd=[]:=by unfold runS;rw [hF,if_pos h1]
  rw [hF,hA,hS];simp only [c1,x20q,x8q]
theorem qi2 {s:List S38} {f:BA} {rc:List S73} {bd:List Int} (h:MOk s f rc bd) (e:BA) (fs:List S71) :
  qi0 s f rc e fs bd=some (((runS s f rc e fs bd).length,(runA s f rc e fs bd).length,runF s f rc e fs bd),runS s f rc e fs bd,runA s f rc e fs bd):=by
 have hn:=q1k6 h e fs;refine qhz ?_;simp only [qi1,gL,dL,q8c,qm1,x25q,x26q,qj,x20q,hn,x0q,qi9];by_cases hF:(runF s f rc e fs bd).1=0
 ·have c1:((runF s f rc e fs bd).1 != 0)=false:=by simpa using hF
  simp only [c1,x1q,x21q]
 ·have c1:((runF s f rc e fs bd).1 != 0)=true:=by simpa using hF
  have hA:runA s f rc e fs bd=[]:=by unfold runA;rw [if_pos hF]
  have hS:runS s f rc e fs bd=[]:=by unfold runS;rw [if_pos hF]
  rw [hA,hS];simp only [c1,x20q,x8q]
set_option maxRecDepth 100000 in
theorem reread {l:List S38} (hl:l.length<=big) (ho:okL l) (hf:(scrF l).1=0) (h4:(rulesL l 0).length<=4000):q11p (baL (rulesL l 0))=some (l,0,0):=by
 have e1:bl (baL (rulesL l 0))=rulesL l 0:=by simp [bl,baL]
 have hr:=q10d hf;have hv:=q1j3 l hl ho
 have he:=q1cj hl ho;rw [qws]
 ·rw [e1]
  unfold sParse;rw [if_neg (by omega),hr]
  simp only;rw [he,if_neg (by simp [hf])]
 ·intro _ l' h
  rw [e1,hr] at h;injection h with h
  subst h;rw [hv,he]
set_option maxRecDepth 100000
noncomputable section
def qz3:=(qqr (vC (cSl qbx)) (qqt (vC (cSl qbx))))
def qzd:=sLS [0,1,5] (qqr (vC (cSl qbx)) (qqr (vC (cSl qbx)) (qqt (vC (cInt .i64))))) qqs [] [] (by decide) (λ_=>rfl)
def qzc:=sLS [0,1,5,14] (qqr (vC (cSl qbx)) (qqr (vC (cSl qbx)) (qqr (vC (cInt .i64)) (qqt (vC cBool))))) qqs [] [] (by decide) (λ_=>rfl)
def qzb:=sLS [4] (qqt (vC cBool)) qqs [] [] (by decide) (λ_=>rfl)
def qza:=oOr 1 qzb (oAt 2 qzc) (λx=>(by decide:(2:Nat)≠1))
def qz7 (a b:L87) (i:Int):=lS Tryz.prog lv X0 14 26 (qm6 (cdF Tryz.f14) 4) qzd qza ((a,b,i),())
def qze (a b:L87) (i:Int):Oq ((Bool×Unit)⊕((L87×L87×Int×Bool)×Unit)) :=brE (decide (i<(lN qbx a:Int))) (gdE (p0 i)<|gdE (eC qbx a i [K1.int IntKind.i64,K1.bool,K1.str])<|gdE (p0 i)<|gdE (eC qbx b i [K1.int IntKind.i64,K1.bool,K1.str])<|brE (!((qph (List.getD (List.getD (EC.encL qbx a) (Int.toNat i) []) 0 C.ne)==qph (List.getD (List.getD (EC.encL qbx b) (Int.toNat i) []) 0 C.ne))&&((q8b (List.getD (List.getD (EC.encL qbx a) (Int.toNat i) []) 1 C.ne)==q8b (List.getD (List.getD (EC.encL qbx b) (Int.toNat i) []) 1 C.ne))&&((q1e1 (List.getD (List.getD (EC.encL qbx a) (Int.toNat i) []) 2 C.ne)==q1e1 (List.getD (List.getD (EC.encL qbx b) (Int.toNat i) []) 2 C.ne))&&true)))) (some (.inl (false,()))) (gL qbx a<|gL qbx b<|qz7 (dL qbx a) (dL qbx b) (wI i))) (gL qbx a<|gL qbx b<|some (.inr ((dL qbx a,dL qbx b,i,false),())))
theorem qz9:E3 qze qz7:=λh=>lT (es:=q1g3) (hs:=qoa) [] trivial trivial h
def qz8:=lentZ 14 26 4 (qm6 (cdF Tryz.f14) 4) qzd qza
def qz4:Cod (V×List B) Bool:=(cFstU (cPair (vC cBool) qqs))
def qzf (a b:L87):=fS Tryz.prog lv X0 14 qz3 qz4 (a,b)
def qzg (a b:L87):Oq Bool :=brE ((lN qbx a:Int) != (lN qbx b:Int)) (some false) (gL qbx a<|gL qbx b<|(qz7 (dL qbx a) (dL qbx b) 0).bind λr0=>Sum.elim (λr1=>some r1.1) (λ_r1=>some true) r0)
theorem qz6 {a b r} (h:qzg a b=some r):qzf a b=some r :=
 fT (es:=q1g3) (hs:=qoa) [qz8] Tryz.func14 ⟨⟨_,rfl,rfl⟩,trivial⟩ trivial h
def qz5:=entZ 14 [] qz3 qz4
def q1gq:=qz5::q1g3
def qyp:=(qqr (vC (cSl qbu)) (qqt (vC (cSl qbu))))
def qyz:=sLS [0,1,5] (qqr (vC (cSl qbu)) (qqr (vC (cSl qbu)) (qqt (vC (cInt .i64))))) qqs [] [] (by decide) (λ_=>rfl)
def qyy:=sLS [0,1,5,14] (qqr (vC (cSl qbu)) (qqr (vC (cSl qbu)) (qqr (vC (cInt .i64)) (qqt (vC cBool))))) qqs [] [] (by decide) (λ_=>rfl)
def qyx:=sLS [4] (qqt (vC cBool)) qqs [] [] (by decide) (λ_=>rfl)
def qyw:=oOr 1 qyx (oAt 2 qyy) (λx=>(by decide:(2:Nat)≠1))
def qyt (a b:L54) (i:Int):=lS Tryz.prog lv X0 12 26 (qm6 (cdF Tryz.f12) 4) qyz qyw ((a,b,i),())
def qz0 (a b:L54) (i:Int):Oq ((Bool×Unit)⊕((L54×L54×Int×Bool)×Unit)) :=brE (decide (i<(lN qbu a:Int))) (gdE (p0 i)<|gdE (eC qbu a i [K1.int IntKind.i64,K1.str,K1.int IntKind.i64])<|gdE (p0 i)<|gdE (eC qbu b i [K1.int IntKind.i64,K1.str,K1.int IntKind.i64])<|brE (!((qph (List.getD (List.getD (EC.encL qbu a) (Int.toNat i) []) 0 C.ne)==qph (List.getD (List.getD (EC.encL qbu b) (Int.toNat i) []) 0 C.ne))&&((q1e1 (List.getD (List.getD (EC.encL qbu a) (Int.toNat i) []) 1 C.ne)==q1e1 (List.getD (List.getD (EC.encL qbu b) (Int.toNat i) []) 1 C.ne))&&((qph (List.getD (List.getD (EC.encL qbu a) (Int.toNat i) []) 2 C.ne)==qph (List.getD (List.getD (EC.encL qbu b) (Int.toNat i) []) 2 C.ne))&&true)))) (some (.inl (false,()))) (gL qbu a<|gL qbu b<|qyt (dL qbu a) (dL qbu b) (wI i))) (gL qbu a<|gL qbu b<|some (.inr ((dL qbu a,dL qbu b,i,false),())))
theorem qyv:E3 qz0 qyt:=λh=>lT (es:=q1gq) (hs:=qoa) [] trivial trivial h
def qyu:=lentZ 12 26 4 (qm6 (cdF Tryz.f12) 4) qyz qyw
def qyq:Cod (V×List B) Bool:=(cFstU (cPair (vC cBool) qqs))
def qz1 (a b:L54):=fS Tryz.prog lv X0 12 qyp qyq (a,b)
def qz2 (a b:L54):Oq Bool :=brE ((lN qbu a:Int) != (lN qbu b:Int)) (some false) (gL qbu a<|gL qbu b<|(qyt (dL qbu a) (dL qbu b) 0).bind λr0=>Sum.elim (λr1=>some r1.1) (λ_r1=>some true) r0)
theorem qys {a b r} (h:qz2 a b=some r):qz1 a b=some r :=
 fT (es:=q1gq) (hs:=qoa) [qyu] Tryz.func12 ⟨⟨_,rfl,rfl⟩,trivial⟩ trivial h
def qyr:=entZ 12 [] qyp qyq
def q1gp:=qyr::q1gq
def qzh:=(qqr (vC (cSl qbr)) (qqt (vAgg (qqr (vC cStr) (qqr (vC (cSl qbw)) (qqr (vC cStr) (qqr (vC (cSl qbv)) (qqt (vC (cSl qbt))))))))))
def qzi:Cod (V×List B) Bool:=(cFstU (cPair (vC cBool) qqs))
def qzk (s:L38) (qsm:BA) (qso:L73) (qsn:BA) (qsr:L71) (qsq:List Int):=fS Tryz.prog lv X0 4 qzh qzi (s,qsm,qso,qsn,qsr,qsq)
def qzl (s:L38) (qsm:BA) (qso:L73) (qsn:BA) (qsr:L71) (qsq:List Int):Oq Bool :=gL qbr s<|(q11v (dL qbr s)).bind λr0=>brE (r0.2.1 != 0) (some true) ((q11p r0.1).bind λr1=>gL qbr s<|gL qbw qso<|gL qbv qsr<|gL qbt qsq<|(qi0 (dL qbr s) qsm (dL qbw qso) qsn (dL qbv qsr) (dL qbt qsq)).bind λr2=>gL qbr r1.1<|gL qbw qso<|gL qbv qsr<|gL qbt qsq<|(qi0 (dL qbr r1.1) qsm (dL qbw qso) qsn (dL qbv qsr) (dL qbt qsq)).bind λr3=>brE ((r1.2.1==0)==true) (brE (((r2.1.2.2.1==r3.1.2.2.1)&&((r2.1.2.2.2==r3.1.2.2.2)&&true))==true) (gL qbx r2.2.1<|gL qbx r3.2.1<|(qzf (dL qbx r2.2.1) (dL qbx r3.2.1)).bind λr4=>brE (r4==true) (gL qbu r2.2.2<|gL qbu r3.2.2<|(qz1 (dL qbu r2.2.2) (dL qbu r3.2.2)).bind λr5=>brE (r5==true) (some true) (some false)) (some false)) (some false)) (some false))
theorem qzj:E6 qzl qzk:=λh=>fT (es:=q1gp) (hs:=qoa) [] Tryz.func4 trivial trivial h
end
theorem q5k (a:BA):(a==a)=true:=by
 cases a with
 |mk d=>show (d==d)=true;exact beq_self_eq_true d
theorem q1cf (l:List S54) (hl:l.length<=10000):∀ (m k:Nat),k+m=l.length->qyt l l k=some (.inr ((l,l,(l.length:Int),false),())):=by
 intro m;induction m with
 |zero =>
  intro k hk;have hk:k=l.length:=by omega
  subst hk;refine qyv ?_;simp only [qz0,gL,dL,lN,eC,wI,p0,q8c,qm1,x25q,x26q,x27q,isE_54,q52,q53,q54];simp
 |succ m ih =>
  intro k hk;have hlt:k<l.length:=by omega
  have e1:decide ((k:Int)<(l.length:Int))=true:=by simp;omega
  have e0:decide ((0:Int)<=(k:Int))=true:=by simp
  have e2:IntKind.i64.wrap ((k:Int)+1)=((k+1:Nat):Int):=q1jr hlt (by omega)
  have hd2:decide (k<l.length)=true:=by simp [hlt]
  refine qyv ?_;simp only [qz0,gL,dL,lN,eC,wI,p0,q8c,qm1,x25q,x26q,x27q,isE_54,q52,q53,q54,e1,e0,x20q,x3q,hd2,q5k,x4q,x19q,x15q,x1q,x21q,e2];exact ih (k+1) (by omega)
theorem q1cg (l:List S54) (hl:l.length<=10000):qz1 l l=some true:=by
 have h:=q1cf l hl l.length 0 (by omega)
 rw [Int.natCast_zero] at h;refine qys ?_;simp only [qz2,gL,dL,lN,q8c,qm1,x25q,x26q,x27q,x20q,bne_self_eq_false,x1q,x21q,h,x0q];rfl
theorem runA_len' {s:List S38} {f:BA} {rc:List S73} {e:BA} {fs:List S71} {bd:List Int}:(runA s f rc e fs bd).length<=101:=by
 unfold runA;split
 ·simp
 ·rename_i h
  have h0:=runF_0 (s:=s) (f:=f) (rc:=rc) (e:=e) (fs:=fs) (bd:=bd) (by simpa using h)
  obtain ⟨_,h2,_⟩:=q1i5 f rc fs bd h0.1;have:(finA (theRun s f rc fs bd).2.2.1).length<=(theRun s f rc fs bd).2.2.1.length+1:=by unfold finA;split <;> simp
  have:=(val_ok h0.1).2;simp only [x8q,x13q] at h2;omega
theorem runS_len'' {s:List S38} {f:BA} {rc:List S73} {e:BA} {fs:List S71} {bd:List Int}:(runS s f rc e fs bd).length<=100:=by
 unfold runS;by_cases hF:(runF s f rc e fs bd).1=0
 ·rw [if_neg (by simp [hF])]
  obtain ⟨h1,_,_⟩:=runF_0 hF;obtain ⟨_,_,h3⟩:=q1i5 f rc fs bd h1;have:=(val_ok h1).2
  simp only [x8q,x13q] at h3;omega
 ·rw [if_pos hF];simp
theorem q1ch (l:List S87) (hl:l.length<=10000):∀ (m k:Nat),k+m=l.length->qz7 l l k=some (.inr ((l,l,((l.length:Nat):Int),false),())):=by
 intro m;induction m with
 |zero =>
  intro k hk;have hk:k=l.length:=by omega
  subst hk;refine qz9 ?_;simp only [qze,gL,dL,lN,eC,wI,p0,q8c,qm1,x25q,x26q,x27q,isE_87,q59,q5a,q5b];simp
 |succ m ih =>
  intro k hk;have hlt:k<l.length:=by omega
  have e1:decide ((k:Int)<(l.length:Int))=true:=by simp;omega
  have e0:decide ((0:Int)<=(k:Int))=true:=by simp
  have e2:IntKind.i64.wrap ((k:Int)+1)=((k+1:Nat):Int):=q1jr hlt (by omega)
  have hd2:decide (k<l.length)=true:=by simp [hlt]
  refine qz9 ?_;simp only [qze,gL,dL,lN,eC,wI,p0,q8c,qm1,x25q,x26q,x27q,isE_87,q59,q5a,q5b,e1,e0,x20q,x3q,hd2,q5k,x4q,x19q,x15q,x1q,x21q,e2];exact ih (k+1) (by omega)
theorem q1ci (l:List S87) (hl:l.length<=10000):qzf l l=some true:=by
 have h:=q1ch l hl l.length 0 (by omega)
 rw [Int.natCast_zero] at h;refine qz6 ?_;simp only [qzg,gL,dL,lN,q8c,qm1,x25q,x26q,x27q,x20q,bne_self_eq_false,x1q,x21q,h,x0q];rfl
theorem law17 (s:List S38) (f:BA) (rc:List S73) (e:BA) (fs:List S71) (bd:List Int) (h:MOk s f rc bd) (hz:tszL s<=1000000000):qzk s f rc e fs bd=some true:=by
 have hp:=qzn s h.len h.ok (λ_=>hz);have hx:=qi2 h e fs
 refine qzj ?_;by_cases hf:(scrF s).1=0
 ·by_cases h4:4000<(rulesL s 0).length
  ·have hq:sPrint s=(noTx,1,-1):=by unfold sPrint;rw [if_neg (by simp [hf]),if_pos h4]
   rw [hq] at hp;simp only [qzl,gL,dL,q8c,qm1,x25q,x26q,x20q,hp,x0q];rfl
  ·have hq:sPrint s=(baL (rulesL s 0),0,0):=by unfold sPrint;rw [if_neg (by simp [hf]),if_neg h4]
   rw [hq] at hp;have hr:=reread h.len h.ok hf (by omega)
   simp only [qzl,gL,dL,q8c,qm1,x25q,x26q,x20q,hp,hr,hx,x0q,bne_self_eq_false,x1q,x21q,x19q,x4q,q1ci _ (Nat.le_trans runS_len'' (by omega)),q1cg _ (Nat.le_trans runA_len' (by omega))]
 ·have hq:sPrint s=(noTx,scrF s):=by unfold sPrint;rw [if_pos hf]
  rw [hq] at hp;have hne:((scrF s).1 != 0)=true:=by simpa using hf
  simp only [qzl,gL,dL,q8c,qm1,x25q,x26q,x20q,hp,x0q,hne]
end Go.Proofs.YtmlcmoaonaomfaaGreatDoor
namespace Go.Proofs.YtmlcmoaonaomfaaGreatDoor
open Go.ChangeShapes Go.WideShapes Go.ChangeAt Go.RowKit Go.Deep
theorem qq:ownKnob Tryz.prog.godebug=none:=by kernel_rfl
theorem qp:laidOutB Tryz.prog=true:=by kernel_rfl
section
variable {H:Type} {enc:TypeId×Value->H} {P:Program}
theorem q1ij (hl:laidOutB P=true) {W W':World} (hb:Bel W W'):∀ {ts:List TypeId} {vs:List Value} {ds:List (DataW H)} {ps:List MemPlace},ts.all (λt=>P.readableRec t&&decide (t<P.types.size))=true ->
  DataW.TrodAll enc P W 0 (λ_=>true) true ts vs ds ps->(∀ x∈ps,x.block<W.heap.size)->DataW.TrodAll enc P W' 0 (λb=>decide (b<W.heap.size)) true ts vs ds ps
 |[],[],[],_,_,h,_=>h
 |[],[],_::_,_,_,h,_=>h.elim
 |[],_::_,_,_,_,h,_=>h.elim
 |_::_,[],_,_,_,h,_=>h.elim
 |_::_,_::_,[],_,_,h,_=>h.elim
 |t::ts,v::vs,d::ds,ps,hr,h,hlt=>by obtain ⟨p,q,h1,h2,rfl⟩:=h;simp only [x17q,x6q,y45q] at hr;exact ⟨p,q,Below.trod hl hr.1.1 hr.1.2 h1 hb (λx hx=>hlt x (List.mem_append_left _ hx)),q1ij hl hb hr.2 h2 (λx hx=>hlt x (List.mem_append_right _ hx)),rfl⟩
theorem qr6 {fn:Func} {s:ChangeSpec} {W W':World} {args:Array Value} {ds gs:List (DataW H)} {before:List MemPlace} {tb:TypeId} (hl:laidOutB P=true)
  (hr:fn.params.toList.all (λt=>P.readableRec t&&decide (t<P.types.size))=true) (hrt:fn.resultTypes=#[tb]) (htb:P.underlying tb=some .bool) (hvars:s.vars=[])
  (hfn:s.fn H ds={ results:=[.lit (.bool true)],args:=ds })
  (hW:DataW.Whole enc P fn.params.toList s.vars false W args.toList ds gs before) (hb:Bel W W'):s.post enc P fn false true false false W args (.bool true) W':=by
 have hW':=hW;have hlt:∀ x∈before,x.block<W.heap.size:=λx hx=>hW.lt x hx
 obtain ⟨p,q,hA,hV,rfl,hfz,hnd⟩:=hW;rw [hvars] at hV;obtain ⟨rfl,rfl⟩:=trodVars_none hV;have e:s.fn H (ds++[])={ results:=[.lit (.bool true)],args:=ds }:=by rw [List.append_nil];exact hfn
 refine ⟨ds,[],p++[],[],p,[],hW',?_,?_,?_,hb.frame _,λh=>by cases h⟩
 ·rw [e,hrt]
  exact trodAll_mk1 (shut_bool htb true)
 ·rw [e]
  exact q1ij hl hb hr hA (λx hx=>hlt x (by simpa using hx))
 ·rw [e,hvars]
  rfl
end
end Go.Proofs.YtmlcmoaonaomfaaGreatDoor
