/- The closed tests 'evaluated()', 'explained()' are run by the machine inside the kernel. -/
import Derived.Test.YtokahibbkdbndaaGreatDoorH7
import Derived.Test.YtokahibbkdbndaaGreatDoorZ35
import Derived.Test.YtokahibbkdbndaaGreatDoorH6
import Derived.Test.YtokahibbkdbndaaGreatDoorZ33
namespace Go.Proofs.YtokahibbkdbndaaGreatDoor
open Go.RowKit
set_option maxRecDepth 1000000 in
theorem qj1:callD Tryz.prog (fzL lv) X0.c (execD Tryz.prog lv X0 200) 23 []=some (.c (.bool true),[]):=by kernel_rfl
def evd_ca:Cod (List V) Unit:=qre
def evd_cr:Cod (V×List B) Bool:=cFstU (cPair (vC cBool) qre)
def evdS:Oq Bool:=some true
theorem qj0 (x:Unit) (r:Bool) (h:evdS=some r):Call Tryz.prog lv X0 23 (evd_ca.enc x)=some (evd_cr.enc r):=by
 cases r with
 |true=>exact qc qj1
 |false=>unfold evdS at h;cases h
noncomputable def exd_e:=entS Tryz.prog lv X0 23 [] evd_ca evd_cr (fun _=>evdS) qj0
noncomputable def tabk:=exd_e::q1ja
end Go.Proofs.YtokahibbkdbndaaGreatDoor
namespace Go.Proofs.YtokahibbkdbndaaGreatDoor
open Go.RowKit
set_option maxRecDepth 100000
noncomputable section
end
theorem q56 (a:BA):(a==a)=true:=by
 cases a with
 |mk d=>show (d==d)=true;exact beq_self_eq_true d
theorem q1fk (l:List S45) (hl:l.length≤10000):∀ (m k:Nat),k+m=l.length→q14a l l k=some (.inr ((l,(l,((l.length:Int),false))),())):=by
 intro m
 induction m with
 |zero =>
  intro k hk
  have hk:k=l.length:=by omega
  subst hk
  refine q14c ?_
  simp only [q14h,gL,dL,lN,eC,wI,p0,q7r,qn6,x26q,x27q,x28q,isE_45,q48,q49,q4a]
  simp
 |succ m ih =>
  intro k hk
  have hlt:k<l.length:=by omega
  have e1:decide ((k:Int)<(l.length:Int))=true:=by simp;omega
  have e0:decide ((0:Int)≤(k:Int))=true:=by simp
  have e2:IntKind.i64.wrap ((k:Int)+1)=((k+1:Nat):Int):=q1m2 hlt (by omega)
  have hd2:decide (k<l.length)=true:=by simp [hlt]
  refine q14c ?_
  simp only [q14h,gL,dL,lN,eC,wI,p0,q7r,qn6,x26q,x27q,x28q,isE_45,q48,q49,q4a,e1,e0,x20q,x3q,hd2,q56,x4q,x19q,x15q,x1q,x21q,e2]
  exact ih (k+1) (by omega)
theorem q1fl (l:List S45) (hl:l.length≤10000):q14i l l=some true:=by
 have h:=q1fk l hl l.length 0 (by omega)
 rw [Int.natCast_zero] at h
 refine q149 ?_
 simp only [q14j,gL,dL,lN,q7r,qn6,x26q,x27q,x28q,x20q,bne_self_eq_false,x1q,x21q,h,x0q]
 rfl
section
variable (f:BA) (rc:List S118) (fs:List S55) (sz:Int)
end
theorem runA_len' {s:List S50} {f:BA} {rc:List S118} {e:BA} {fs:List S55} {bd:List Int}:(runA s f rc e fs bd).length≤101:=by
 unfold runA
 split
 ·simp
 ·rename_i h
  have h0:=runF_0 (s:=s) (f:=f) (rc:=rc) (e:=e) (fs:=fs) (bd:=bd) (by simpa using h)
  obtain ⟨_,h2,_⟩:=q1kt f rc fs bd h0.1
  have:(finA (theRun s f rc fs bd).2.2.1).length≤(theRun s f rc fs bd).2.2.1.length+1:=by
   unfold finA
   split <;> simp
  have:=(val_ok h0.1).2
  simp only [x8q,x13q] at h2
  omega
section
variable (f:BA) (rc:List S118) (i:BA) (fs:List S55) (bd:List Int) (sz:Int) (na:Nat) (ac:List S45) (ns:Nat) (st:List S62)
theorem q1ml (ps:List BA) (hp:ps.length≤1000) (hv:∀ v∈ps,v.size≤2000000):∀ (m k:Nat) (mm:MM),k+m=ps.length→mm.length+m≤100000000→qgo ps.length ps.length k f rc i fs bd sz na ps mm ns ac st=some (((),(ps.length,((ps.length:Int),((ps.length:Int),false)))),((f,(rc,(i,(fs,(bd,(sz,((),(na,())))))))),(ps,(putP (ps.drop k) k mm,(ns,(ac,st)))))):=by
 intro m
 induction m with
 |zero =>
  intro k mm hk hs
  have hk:k=ps.length:=by omega
  subst hk
  refine qgq ?_
  rw [List.drop_length,putP]
  simp only [qgu,gL,dL,lN,wI,p0,q7r,qn6,x26q,x27q,x28q,q51]
  simp
 |succ m ih =>
  intro k mm hk hs
  have hlt:k<ps.length:=by omega
  have e1:decide ((k:Int)<(ps.length:Int))=true:=by simp;omega
  have e0:decide ((0:Int)≤(k:Int))=true:=by simp
  have e2:IntKind.i64.wrap ((k:Int)+1)=((k+1:Nat):Int):=q1m2 hlt (by omega)
  have e3:decide (k<ps.length)=true:=by simp [hlt]
  have hi:itoaP ((k+1:Nat):Int)=some (itB ((k+1:Nat):Int)):=by unfold itoaP;rw [if_pos (by omega)];rfl
  have g1:decide ((itB ((k+1:Nat):Int)).size≤maxLen)=true:=decide_eq_true (by have:=qqw (k+1);unfold maxLen;omega)
  have g2:decide (ps[k].size≤maxLen)=true:=decide_eq_true (by have:=hv _ (List.getElem_mem hlt);unfold maxLen;omega)
  have g3:decide (mm.length<maxLen)=true:=decide_eq_true (by unfold maxLen;omega)
  refine qgq ?_
  rw [qag hlt,putP]
  simp only [qgu,gL,dL,lN,wI,p0,q7r,qn6,x26q,x27q,x28q,q51,e1,e0,e3,x20q,x3q,x4q,qs3 ps k hlt,qqu ps k hlt,qn9 hlt,x19q,e2,hi,x0q,g1,g2,g3]
  exact ih (k+1) _ (by omega) (by have:=q19r mm (itB ((k+1:Nat):Int)) ps[k];omega)
theorem q1mi (t:S48) (ht:t.Text.size≤2000000) (l:List BA) (hl:l.length≤2000000) (hv:∀ v∈l,v.size≤2000000) (n:Nat) (hn:n≤1000000) (mm:MM) (hm:Inv n mm):∀ (m k:Nat),k+m=l.length→∃ x,qgg l.length l.length k f rc i fs bd sz na t.Kind t.Tests t.Name t.Pattern t.Text t.N l mm ns ac st=some x ∧
  Sum.elim (fun r=>(r.1,(r.1,r.2))) (fun r=>(false,(false,(r.2.1,(r.2.2.2.2.1,r.2.2.2.2.2))))) x=((matL t.Pattern t.Text mm (l.drop k)).1,((matL t.Pattern t.Text mm (l.drop k)).1,((f,(rc,(i,(fs,(bd,(sz,((),(na,())))))))),((matL t.Pattern t.Text mm (l.drop k)).2,(ns,(ac,st)))))):=by
 intro m
 induction m with
 |zero =>
  intro k hk
  have hk:k=l.length:=by omega
  subst hk
  refine ⟨.inr (((),((),(l.length,((l.length:Int),((l.length:Int),false))))),((f,(rc,(i,(fs,(bd,(sz,((),(na,())))))))),((t.Kind,(t.Tests,(t.Name,(t.Pattern,(t.Text,t.N))))),(l,(mm,(ns,(ac,st))))))),qgi (by
   simp only [qgn,gL,dL,lN,wI,p0,q7r,qn6,x26q,x27q,x28q,q51]
   simp),?_⟩
  rw [List.drop_length];rfl
 |succ m ih =>
  intro k hk
  have hlt:k<l.length:=by omega
  have e1:decide ((k:Int)<(l.length:Int))=true:=by simp;omega
  have e0:decide ((0:Int)≤(k:Int))=true:=by simp
  have e2:IntKind.i64.wrap ((k:Int)+1)=((k+1:Nat):Int):=q1m2 hlt (by omega)
  have e3:decide (k<l.length)=true:=by simp [hlt]
  have hs:=hv _ (List.getElem_mem hlt)
  have hM:=qta t.Pattern t.Text l[k] (by omega) (by omega)
  obtain ⟨p1,p2,p3⟩:=qt9 t.Pattern t.Text l[k]
  obtain ⟨x,h1,h2⟩:=ih (k+1) (by omega)
  rw [qag hlt,matL]
  generalize matchR t.Pattern t.Text l[k]=r at hM p1 p2 p3
  cases hf:(r.1.2.2.1 != 0) with
  |true =>
   have hf':¬ (r.1.2.2.1=0∧r.1.1=true):=fun h=>by rw [h.1] at hf;cases hf
   rw [if_neg hf']
   refine ⟨x,qgi ?_,h2⟩
   simp only [qgn,gL,dL,lN,wI,p0,q7r,qn6,x26q,x27q,x28q,q51,e1,e0,e3,x20q,x3q,x4q,qs3 l k hlt,qqu l k hlt,qn9 hlt,x19q,e2,hM,x0q,qjo,hf,show (true==false)=false from rfl,x1q,x21q]
   exact h1
  |false =>
   have hf0:r.1.2.2.1=0:=by simpa using hf
   cases hb:r.1.1 with
   |false =>
    rw [if_neg (by simp)]
    refine ⟨x,qgi ?_,h2⟩
    simp only [qgn,gL,dL,lN,wI,p0,q7r,qn6,x26q,x27q,x28q,q51,e1,e0,e3,x20q,x3q,x4q,qs3 l k hlt,qqu l k hlt,qn9 hlt,x19q,e2,hM,x0q,qjo,hf,hb,x11q]
    exact h1
   |true =>
    rw [if_pos ⟨hf0,rfl⟩]
    cases h3:(t.Pattern==3) with
    |false =>
     have h3':¬ t.Pattern=3:=by simpa using h3
     refine ⟨.inl (true,((f,(rc,(i,(fs,(bd,(sz,((),(na,())))))))),(mm,(ns,(ac,st))))),qgi ?_,by rw [if_neg h3'];rfl⟩
     simp only [qgn,gL,dL,lN,wI,p0,q7r,qn6,x26q,x27q,x28q,q51,e1,e0,e3,x20q,x3q,x4q,qs3 l k hlt,qqu l k hlt,qn9 hlt,x19q,e2,hM,x0q,qjo,hf,hb,h3,x15q,x1q,x21q]
    |true =>
     have h3':t.Pattern=3:=by simpa using h3
     have hd:delP mm=some (noDig mm):=by
      unfold delP
      rw [if_pos (List.all_eq_true.2 fun p hp=>decide_eq_true (hm.key p hp))]
      rfl
     have hln:=quw mm
     have hma:=hm.all
     have hpc:=q1ml f rc i fs bd sz na ac ns st r.2 p2 p3 r.2.length 0 (noDig mm) (by omega) (by omega)
     rw [x10q] at hpc
     have hpc:qgo r.2.length r.2.length 0 f rc i fs bd sz na r.2 (noDig mm) ns ac st=_:=hpc
     refine ⟨.inl (true,((f,(rc,(i,(fs,(bd,(sz,((),(na,())))))))),(putP r.2 0 (noDig mm),(ns,(ac,st))))),qgi ?_,by rw [if_pos h3'];rfl⟩
     simp only [qgn,gL,dL,lN,wI,p0,q7r,qn6,x26q,x27q,x28q,q51,e1,e0,e3,x20q,x3q,x4q,qs3 l k hlt,qqu l k hlt,qn9 hlt,x19q,e2,hM,x0q,qjo,hf,hb,h3,x15q,x1q,x21q,hd,p1,hpc]
theorem q1mj (t:S48) (ht:t.Text.size≤2000000) (l:List BA) (hl:l.length≤2000000) (hv:∀ v∈l,v.size≤2000000) (n:Nat) (hn:n≤1000000) (mm:MM) (hm:Inv n mm) :
  qgd t.Kind t.Tests t.Name t.Pattern t.Text t.N l.length f rc i fs bd sz na l mm ns ac st=some ((matL t.Pattern t.Text mm l).1,((matL t.Pattern t.Text mm l).1,((f,(rc,(i,(fs,(bd,(sz,((),(na,())))))))),((matL t.Pattern t.Text mm l).2,(ns,(ac,st)))))):=by
 obtain ⟨x,h1,h2⟩:=q1mi f rc i fs bd sz na ac ns st t ht l hl hv n hn mm hm l.length 0 (by omega)
 rw [x10q] at h2
 have h1:qgg l.length l.length 0 f rc i fs bd sz na t.Kind t.Tests t.Name t.Pattern t.Text t.N l mm ns ac st=some x:=h1
 refine qgf ?_
 simp only [qgy,gL,dL,qn6,x26q,x27q,x20q,h1,x0q]
 rcases x with x|x
 ·simp only [Sum.elim_inl] at h2 ⊢
  exact congrArg some h2
 ·simp only [Sum.elim_inr] at h2 ⊢
  exact congrArg some h2
theorem q1mh (h:HdrOk fs) (n:BA) (hn:n.size≤2000000) (mm:MM) :
  qfz n f rc i fs bd sz na mm ns ac st=some ((valsL fs n).length,((valsL fs n).length,(valsL fs n,((f,(rc,(i,(fs,(bd,(sz,((),(na,())))))))),(mm,(ns,(ac,st))))))):=by
 obtain ⟨r,e,h1,h2⟩:=get_s h n hn
 refine qg1 ?_
 simp only [qg5,gL,dL,qn6,x26q,x27q,x20q,e,x0q]
 rw [h2,h1]
end
section
variable (f:BA) (rc:List S118) (i:BA) (fs:List S55) (bd:List Int) (sz:Int) (na:Nat) (ac:List S45) (ns:Nat) (st:List S62)
theorem q1mc (t:S48) (mm:MM) (hl:rc.length≤60):∀ (m k:Nat) (acc:List BA),k+m=rc.length→acc.length≤k→qho acc.length rc rc.length k f rc i fs bd sz na t.Kind t.Tests t.Name t.Pattern t.Text t.N acc mm ns ac st=some (((),((),(acc.length+m,(rc,((rc.length:Int),((rc.length:Int),false)))))),((f,(rc,(i,(fs,(bd,(sz,((),(na,())))))))),((t.Kind,(t.Tests,(t.Name,(t.Pattern,(t.Text,t.N))))),(acc++(rc.drop k).map (fun x=>x.Address),(mm,(ns,(ac,st))))))):=by
 intro m
 induction m with
 |zero =>
  intro k acc hk ha
  have hk:k=rc.length:=by omega
  subst hk
  refine qhq ?_
  rw [List.drop_length]
  simp only [qhu,z2j,gL,dL,eC,wI,p0,aL,dQ,q7r,qn6,x26q,x27q,x28q,q3l,q3z,qqm,q42]
  simp
 |succ m ih =>
  intro k acc hk ha
  have hlt:k<rc.length:=by omega
  have e1:decide ((k:Int)<(rc.length:Int))=true:=by simp;omega
  have e0:decide ((0:Int)≤(k:Int))=true:=by simp
  have e2:IntKind.i64.wrap ((k:Int)+1)=((k+1:Nat):Int):=q1m2 hlt (by omega)
  have e3:decide (k<rc.length)=true:=by simp [hlt]
  have g1:decide ((acc.length+1+(acc.length+1) / 4+192)*16≤281474976710656)=true:=decide_eq_true (by omega)
  have g2:decide (acc.length+1≤9223372036854775807)=true:=decide_eq_true (by omega)
  have hi:=ih (k+1) (acc++[rc[k].Address]) (by omega) (by simp;omega)
  rw [x12q] at hi
  refine qhq ?_
  rw [qag hlt,List.map_cons]
  simp only [qhu,z2j,gL,dL,eC,wI,p0,aL,dQ,q7r,qn6,x26q,x27q,x28q,q3l,q3z,qqm,q42,e1,e0,e3,x20q,x3q,x4q,qn9 hlt,x17q,x24q,x9q,x8q,x13q,x19q,g1,g2,e2]
  rw [show acc++rc[k].Address::(rc.drop (k+1)).map (fun x=>x.Address)=acc++[rc[k].Address]++(rc.drop (k+1)).map (fun x=>x.Address) by simp,show acc.length+(m+1)=acc.length+[rc[k].Address].length+m by simp;omega]
  exact hi
def q1mn (t:S48):Prop:=∀ (n:Nat) (mm:MM),n≤1000000→Inv n mm→qhl t.Kind t.Tests t.Name t.Pattern t.Text t.N f rc i fs bd sz na mm ns ac st=some ((tsT f rc fs sz t mm).1,((tsT f rc fs sz t mm).1,((f,(rc,(i,(fs,(bd,(sz,((),(na,())))))))),((tsT f rc fs sz t mm).2,(ns,(ac,st))))))
theorem q1md (t:S48) (n:Nat) (hn:n≤1000000) (hl:t.Tests.length≤2000000) (ih0:∀ x∈t.Tests,q1mn f rc i fs bd sz na ac ns st x):∀ (m k:Nat) (mm:MM),k+m=t.Tests.length→Inv n mm→∃ x,qhv t.Tests t.Tests.length k f rc i fs bd sz na t.Kind t.Tests t.Name t.Pattern t.Text t.N mm ns ac st=some x ∧
  Sum.elim (fun r=>(r.1,(r.1,r.2))) (fun r=>((r.2.2.1.1==3),((r.2.2.1.1==3),(r.2.1,(r.2.2.2.1,r.2.2.2.2))))) x=((tsA f rc fs sz t.Kind (t.Tests.drop k) mm).1,((tsA f rc fs sz t.Kind (t.Tests.drop k) mm).1,((f,(rc,(i,(fs,(bd,(sz,((),(na,())))))))),((tsA f rc fs sz t.Kind (t.Tests.drop k) mm).2,(ns,(ac,st)))))):=by
 intro m
 induction m with
 |zero =>
  intro k mm hk hI
  have hk:k=t.Tests.length:=by omega
  subst hk
  refine ⟨.inr (((),((),(t.Tests,((t.Tests.length:Int),((t.Tests.length:Int),false))))),((f,(rc,(i,(fs,(bd,(sz,((),(na,())))))))),((t.Kind,(t.Tests,(t.Name,(t.Pattern,(t.Text,t.N))))),(mm,(ns,(ac,st)))))),qhx (by
   simp only [qi2,z2i,gL,dL,eC,wI,p0,uL,q7r,qn6,x26q,x27q,x28q,qqp,q4b,q4c,q4d,q4e,q4f,q4g]
   simp),?_⟩
  rw [List.drop_length,tsA];rfl
 |succ m ih =>
  intro k mm hk hI
  have hlt:k<t.Tests.length:=by omega
  have e1:decide ((k:Int)<(t.Tests.length:Int))=true:=by simp;omega
  have e0:decide ((0:Int)≤(k:Int))=true:=by simp
  have e2:IntKind.i64.wrap ((k:Int)+1)=((k+1:Nat):Int):=q1m2 hlt (by omega)
  have e3:decide (k<t.Tests.length)=true:=by simp [hlt]
  have h0:=ih0 t.Tests[k] (List.getElem_mem hlt) n mm hn hI
  have hI2:=q1l3 f rc fs sz n t.Tests[k] mm hI
  rw [qag hlt,tsA]
  generalize tsT f rc fs sz t.Tests[k] mm=u at h0 hI2
  obtain ⟨x,h1,h2⟩:=ih (k+1) u.2 (by omega) hI2
  by_cases hb:u.1=(t.Kind==4)
  ·have hb':(u.1==(t.Kind==4))=true:=by simpa using hb
   rw [if_pos hb]
   refine ⟨.inl ((t.Kind==4),((f,(rc,(i,(fs,(bd,(sz,((),(na,())))))))),(u.2,(ns,(ac,st))))),qhx ?_,rfl⟩
   simp only [qi2,z2i,gL,dL,eC,wI,p0,uL,q7r,qn6,x26q,x27q,x28q,qqp,q4b,q4c,q4d,q4e,q4f,q4g,e1,e0,e3,x20q,x3q,x4q,qn9 hlt,h0,x0q,hb']
  ·have hb':(u.1==(t.Kind==4))=false:=by simpa using hb
   rw [if_neg hb]
   refine ⟨x,qhx ?_,h2⟩
   simp only [qi2,z2i,gL,dL,eC,wI,p0,uL,q7r,qn6,x26q,x27q,x28q,qqp,q4b,q4c,q4d,q4e,q4f,q4g,e1,e0,e3,x20q,x3q,x4q,qn9 hlt,h0,x0q,hb',x1q,x21q,e2]
   exact h1
theorem q1mo (hH:HdrOk fs) (hE:envB f rc):∀ (q:Nat) (t:S48),tzT t=q→okT t→okvT t→t.Tests.length≤2000000→q1mn f rc i fs bd sz na ac ns st t:=by
 intro q
 induction q using Nat.strongRecOn with
 |_ q ihq =>
  intro t hq ho hv hlen n mm hn hI
  subst hq
  obtain ⟨hl,hol⟩:=(okT_eq t).1 ho
  obtain ⟨⟨k1,k9⟩,hinn⟩:=qvg hv
  obtain ⟨ht1,ht2⟩:=qvh hv
  obtain ⟨he1,he2,he3⟩:=hE
  have hkid:∀ x∈t.Tests,x.Tests.length≤60:=fun x hx=>by
   have:=(qvg (qvf hv hx)).2
   unfold innerB at this
   split at this
   ·have:x.Tests.length=1:=by simpa using this
    omega
   ·split at this
    ·simp at this;omega
    ·have:x.Tests.length=0:=by simpa using this
     omega
  have ihc:∀ x∈t.Tests,q1mn f rc i fs bd sz na ac ns st x:=fun x hx=>ihq (tzT x) (by have:=tz_mem hx;have e:=tzT_eq t;omega) x rfl (qv7 hol hx) (qvf hv hx) (by have:=hkid x hx;omega)
  have hvl:(valsL fs t.Name).length≤60:=Nat.le_trans (q1lg _ _) hH.len
  have hvs:∀ v∈valsL fs t.Name,v.size≤2000000:=fun v hv=>by
   unfold valsL at hv
   obtain ⟨x,hx,rfl⟩:=List.mem_map.1 hv
   have:=(hH.all x (List.mem_filter.1 hx).1).2
   omega
  refine qhn ?_
  rw [tsT_eq]
  by_cases h2:t.Kind=2
  ·rw [if_pos h2]
   cases hts:t.Tests with
   |nil =>
    unfold innerB at hinn
    rw [if_pos h2,hts] at hinn
    cases hinn
   |cons x l =>
    have hx:x∈t.Tests:=by rw [hts];exact List.mem_cons_self ..
    have h0:=ihc x hx n mm hn hI
    rw [tsH]
    have c2:(t.Kind==2)=true:=by simpa using h2
    simp only [qi6,z2k,gL,dL,lN,eC,uL,q7r,qn6,x26q,x27q,x28q,qqp,q4b,q4c,q4d,q4e,q4f,q4g,c2,x20q]
    simp only [Int.toNat_zero,x9q,List.getD_cons_zero,h0,x0q]
    simp
  have c2:(t.Kind==2)=false:=by simpa using h2
  rw [if_neg h2]
  by_cases h3:t.Kind=3
  ·rw [if_pos (.inl h3)]
   obtain ⟨x,h1,h2'⟩:=q1md f rc i fs bd sz na ac ns st t n hn hlen ihc t.Tests.length 0 mm (by omega) hI
   rw [x10q] at h2'
   have h1:qhv t.Tests t.Tests.length 0 f rc i fs bd sz na t.Kind t.Tests t.Name t.Pattern t.Text t.N mm ns ac st=some x:=h1
   have c3:(t.Kind==3)=true:=by simpa using h3
   simp only [qi6,z2k,gL,dL,lN,eC,uL,q7r,qn6,x26q,x27q,x28q,qqp,q4b,q4c,q4d,q4e,q4f,q4g,c2,c3,x20q,x1q,x21q,h1,x0q]
   rw [←h2']
   rcases x with x|x <;> rfl
  have c3:(t.Kind==3)=false:=by simpa using h3
  by_cases h4:t.Kind=4
  ·rw [if_pos (.inr h4)]
   obtain ⟨x,h1,h2'⟩:=q1md f rc i fs bd sz na ac ns st t n hn hlen ihc t.Tests.length 0 mm (by omega) hI
   rw [x10q] at h2'
   have h1:qhv t.Tests t.Tests.length 0 f rc i fs bd sz na t.Kind t.Tests t.Name t.Pattern t.Text t.N mm ns ac st=some x:=h1
   have c4:(t.Kind==4)=true:=by simpa using h4
   simp only [qi6,z2k,gL,dL,lN,eC,uL,q7r,qn6,x26q,x27q,x28q,qqp,q4b,q4c,q4d,q4e,q4f,q4g,c2,c3,c4,x20q,x1q,x21q,h1,x0q]
   rw [←h2']
   rcases x with x|x <;> rfl
  have c4:(t.Kind==4)=false:=by simpa using h4
  rw [if_neg (by rintro (h|h);exact h3 h;exact h4 h)]
  by_cases h5:t.Kind=5
  ·rw [if_pos h5]
   have c5:(t.Kind==5)=true:=by simpa using h5
   have hf:=q1mh f rc i fs bd sz na ac ns st hH t.Name (by omega) mm
   have hm:=q1mj f rc i fs bd sz na ac ns st t (by omega) (valsL fs t.Name) (by omega) hvs n hn mm hI
   simp only [qi6,z2k,gL,dL,lN,eC,uL,q7r,qn6,x26q,x27q,x28q,qqp,q4b,q4c,q4d,q4e,q4f,q4g,c2,c3,c4,c5,x20q,x1q,x21q,hf,x0q,hm]
  have c5:(t.Kind==5)=false:=by simpa using h5
  rw [if_neg h5]
  by_cases h6:t.Kind=6
  ·rw [if_pos h6]
   have c6:(t.Kind==6)=true:=by simpa using h6
   have hm:=q1mj f rc i fs bd sz na ac ns st t (by omega) [f] (by simp) (fun v hv=>by obtain rfl:v=f:=(by simpa using hv);omega) n hn mm hI
   have hm:qgd t.Kind t.Tests t.Name t.Pattern t.Text t.N 1 f rc i fs bd sz na [f] mm ns ac st=_:=hm
   have hd:qb5.decL [[(C.str f)]]=[f]:=rfl
   have hi:qb5.isL [[(C.str f)]]=true:=rfl
   simp only [qi6,z2k,gL,dL,lN,eC,uL,q7r,qn6,x26q,x27q,x28q,qqp,q4b,q4c,q4d,q4e,q4f,q4g,c2,c3,c4,c5,c6,x20q,x1q,x21q,hd]
   first
    |(rw [hm];rfl)
    |(simp only [hm,x0q])
  have c6:(t.Kind==6)=false:=by simpa using h6
  rw [if_neg h6]
  by_cases h7:t.Kind=7
  ·rw [if_pos h7]
   have c7:(t.Kind==7)=true:=by simpa using h7
   have ha:=q1mc f rc i fs bd sz na ac ns st t mm he2 rc.length 0 [] (by omega) (by simp)
   have ha:qho 0 rc rc.length 0 f rc i fs bd sz na t.Kind t.Tests t.Name t.Pattern t.Text t.N [] mm ns ac st=_:=ha
   rw [x10q,List.nil_append,x8q,x13q] at ha
   have hm:=q1mj f rc i fs bd sz na ac ns st t (by omega) (rc.map fun x=>x.Address) (by simp;omega) (fun v hv=>by
    obtain ⟨x,hx,rfl⟩:=List.mem_map.1 hv
    have:=he3 x hx
    omega) n hn mm hI
   rw [List.length_map] at hm
   simp only [qi6,z2k,gL,dL,lN,eC,uL,q7r,qn6,x26q,x27q,x28q,qqp,q4b,q4c,q4d,q4e,q4f,q4g,qg,c2,c3,c4,c5,c6,c7,x20q,x1q,x21q,ha,x0q,hm]
  have c7:(t.Kind==7)=false:=by simpa using h7
  rw [if_neg h7]
  by_cases h8:t.Kind=8
  ·rw [if_pos h8]
   have c8:(t.Kind==8)=true:=by simpa using h8
   simp only [qi6,z2k,gL,dL,lN,eC,uL,q7r,qn6,x26q,x27q,x28q,qqp,q4b,q4c,q4d,q4e,q4f,q4g,c2,c3,c4,c5,c6,c7,c8,x20q,x1q,x21q]
  have c8:(t.Kind==8)=false:=by simpa using h8
  rw [if_neg h8]
  by_cases h9:t.Kind=9
  ·rw [if_pos h9]
   have c9:(t.Kind==9)=true:=by simpa using h9
   have hf:=q1mh f rc i fs bd sz na ac ns st hH t.Name (by omega) mm
   simp only [qi6,z2k,gL,dL,lN,eC,uL,q7r,qn6,x26q,x27q,x28q,qqp,q4b,q4c,q4d,q4e,q4f,q4g,c2,c3,c4,c5,c6,c7,c8,c9,x20q,x1q,x21q,hf,x0q]
  have c9:(t.Kind==9)=false:=by simpa using h9
  rw [if_neg h9]
  simp only [qi6,z2k,gL,dL,lN,eC,uL,q7r,qn6,x26q,x27q,x28q,qqp,q4b,q4c,q4d,q4e,q4f,q4g,c2,c3,c4,c5,c6,c7,c8,c9,x20q,x1q,x21q]
end
theorem x_note (i:Int) (b:Bool) (s:BA) (st:List S62) (h:st.length≤10000):qj8 i b s st.length st=some ((),((),((st++[(⟨i,b,s⟩:S62)]).length,st++[(⟨i,b,s⟩:S62)]))):=by
 have g1:decide ((st.length+1+(st.length+1) / 4+192)*32≤281474976710656)=true:=decide_eq_true (by omega)
 have g2:decide (st.length+1≤9223372036854775807)=true:=decide_eq_true (by omega)
 refine qja ?_
 simp only [qje,aL,dQ,qn6,x26q,x27q,all_62,apd_62,x17q,x24q,x9q,x8q,x13q,x19q,x4q,g1,g2,x20q,x12q]
section
variable (f:BA) (rc:List S118) (e:BA) (fs:List S55) (bd:List Int) (sz:Int)
abbrev q1mm (m:MM) (a:List S45) (st:List S62):=(((f,(rc,(e,(fs,(bd,(sz,((),(a.length,())))))))),(m,(st.length,(a,st)))):(BA×(List S118)×BA×(List S55)×(List Int)×Int×Unit×Nat×Unit)×MM×Nat×List S45×List S62)
def q1me (s:List S50):Prop:=∀ (i:Int) (n:Nat) (m:MM) (a:List S45) (st:List S62),0≤i→i+szL s≤1000→n+szL s≤1000→a.length+szL s≤1000→st.length+szL s≤1000→Inv n m →
 qfk s i f rc e fs bd sz a.length m st.length a st=some ((exL f rc fs sz s i m a st).1,((exL f rc fs sz s i m a st).1,q1mm f rc e fs bd sz (exL f rc fs sz s i m a st).2.1 (exL f rc fs sz s i m a st).2.2.1 (exL f rc fs sz s i m a st).2.2.2))
theorem q1mf (s:List S50) (hl:s.length≤big) (ho:okL s) (hv:okvL s) (hT:∀ r∈s,r.Kind=1→∀ na ac ns st,q1mn f rc e fs bd sz na ac ns st (tOf r)) (ihE:∀ r∈s,q1me f rc e fs bd sz r.Then∧q1me f rc e fs bd sz r.Else) :
  ∀ (q k:Nat) (i:Int) (n:Nat) (m:MM) (a:List S45) (st:List S62),k+q=s.length→0≤i→i+szL (s.drop k)≤1000→n+szL (s.drop k)≤1000→a.length+szL (s.drop k)≤1000→st.length+szL (s.drop k)≤1000→Inv n m →
  ∃ x,qfn i s s.length k f rc e fs bd sz a.length m st.length a st=some x∧Sum.elim (fun r=>(r.1,r.2)) (fun r=>(true,r.2)) x=((exL f rc fs sz (s.drop k) i m a st).1,q1mm f rc e fs bd sz (exL f rc fs sz (s.drop k) i m a st).2.1 (exL f rc fs sz (s.drop k) i m a st).2.2.1 (exL f rc fs sz (s.drop k) i m a st).2.2.2):=by
 intro q
 induction q with
 |zero =>
  intro k i n m a st hk h0 h1 h2 h3 h4 hI
  have hk:k=s.length:=by omega
  subst hk
  refine ⟨.inr (((),(i,(s,((s.length:Int),((s.length:Int),false))))),q1mm f rc e fs bd sz m a st),qfp (by
   simp only [qfu,z2l,z2m,z2n,z2o,z2p,gL,dL,eC,wI,p0,aL,dQ,uL,q7r,qn6,x26q,x27q,x28q,qqq,q4i,q4j,q4n,q4o,q4p,q4q,q4r,q4s,q4t,q4u,q4k,q4l,q4m,q3k,q3y]
   simp),?_⟩
  rw [List.drop_length,exL];rfl
 |succ q ihm =>
  intro k i n m a st hk h0 h1 h2 h3 h4 hI
  have hlt:k<s.length:=by omega
  have e1:decide ((k:Int)<(s.length:Int))=true:=by simp;omega
  have e0:decide ((0:Int)≤(k:Int))=true:=by simp
  have e2:IntKind.i64.wrap ((k:Int)+1)=((k+1:Nat):Int):=q1m2 hlt (by unfold big at hl;omega)
  have hd2:decide (k<s.length)=true:=by simp [hlt]
  have hmem:s[k]∈s:=List.getElem_mem hlt
  have hdr:szL (s.drop k)=szR s[k]+szL (s.drop (k+1)):=by rw [qag hlt];rfl
  rw [hdr] at h1 h2 h3 h4
  have hsz:=q1hr s[k]
  obtain ⟨_,⟨ht1,ht2⟩,⟨he1,he2⟩,_⟩:=(qv6 s[k]).1 (qv5 ho hmem)
  obtain ⟨hh,hvt,hve⟩:=okvR hv hmem
  obtain ⟨hkk,htx,hvar,hnil⟩:=q1b9 hh
  obtain ⟨iT,iE⟩:=ihE s[k] hmem
  have hcT:=size_s s[k].Then ht1 ht2
  have hcE:=size_s s[k].Else he1 he2
  rw [q1m1 (by omega)] at hcT hcE
  have w1:IntKind.i64.wrap (i+1)=i+1:=q1m1 (by omega)
  have w2:IntKind.i64.wrap (i+1+(szL s[k].Then:Int))=i+1+szL s[k].Then:=q1m1 (by omega)
  have w3:IntKind.i64.wrap (1+(szL s[k].Then:Int))=1+szL s[k].Then:=q1m1 (by omega)
  have w4:IntKind.i64.wrap (1+(szL s[k].Then:Int)+(szL s[k].Else:Int))=1+szL s[k].Then+szL s[k].Else:=q1m1 (by omega)
  have w5:IntKind.i64.wrap (i+(1+(szL s[k].Then:Int)+(szL s[k].Else:Int)))=i+szR s[k]:=by rw [q1m1 (by omega)];omega
  have hst:st.length≤10000:=by omega
  have nt:=x_note i true (ByteArray.mk (List.toArray [])) st hst
  have nf:=x_note i false (ByteArray.mk (List.toArray [])) st hst
  have nx:=x_note i false (exT m s[k].Text) st hst
  have nt:_=some ((),((),((st++[(⟨i,true,noTx⟩:S62)]).length,st++[(⟨i,true,noTx⟩:S62)]))):=nt
  have nf:_=some ((),((),((st++[(⟨i,false,noTx⟩:S62)]).length,st++[(⟨i,false,noTx⟩:S62)]))):=nf
  have hma:m.length≤10000:=by have:=hI.all;omega
  rw [qag hlt,exL]
  by_cases k1:s[k].Kind=1
  ·have c1:(s[k].Kind==1)=true:=by simpa using k1
   have ht:qhl s[k].Test_Kind s[k].Test_Tests s[k].Test_Name s[k].Test_Pattern s[k].Test_Text s[k].Test_N f rc e fs bd sz a.length m st.length a st=_:=hT s[k] hmem k1 a.length a st.length st n m (by omega) hI
   have hI2:=q1l3 f rc fs sz n (tOf s[k]) m hI
   rw [exR_eq,if_pos k1]
   generalize tsT f rc fs sz (tOf s[k]) m=u at ht hI2
   obtain ⟨ub,um⟩:=u
   cases ub with
   |true =>
    rw [if_pos rfl]
    have hp:=iT (i+1) n um a (st++[⟨i,true,noTx⟩]) (by omega) (by omega) (by omega) (by omega) (by simp;omega) hI2
    have hinv:=qiu f rc fs sz _ s[k].Then rfl hvt n (i+1) um a (st++[⟨i,true,noTx⟩]) hI2
    generalize exL f rc fs sz s[k].Then (i+1) um a (st++[⟨i,true,noTx⟩])=v at hp hinv
    obtain ⟨vb,vm,va,vs⟩:=v
    obtain ⟨g1,g2,g3⟩:=hinv
    simp only [x12q,List.length_singleton] at g1 g2 g3
    cases vb with
    |false =>
     simp only [x1q,x21q]
     refine ⟨.inl (false,q1mm f rc e fs bd sz vm va vs),qfp ?_,rfl⟩
     simp only [qfu,z2l,z2m,z2n,z2o,z2p,gL,dL,eC,wI,p0,aL,dQ,uL,q7r,qn6,x26q,x27q,x28q,qqq,q4i,q4j,q4n,q4o,q4p,q4q,q4r,q4s,q4t,q4u,q4k,q4l,q4m,q3k,q3y,e1,e0,x20q,x3q,hd2,x4q,qn9 hlt,c1,ht,nt,nf,x0q,x15q,x11q,x1q,x21q,w1,hp,q1mm]
    |true =>
     rw [if_pos rfl]
     obtain ⟨x,x1,x2⟩:=ihm (k+1) (i+szR s[k]) (n+szL s[k].Then) vm va vs (by omega) (by omega) (by omega) (by omega) (by omega) (by omega) g1
     refine ⟨x,qfp ?_,x2⟩
     simp only [qfu,z2l,z2m,z2n,z2o,z2p,gL,dL,eC,wI,p0,aL,dQ,uL,q7r,qn6,x26q,x27q,x28q,qqq,q4i,q4j,q4n,q4o,q4p,q4q,q4r,q4s,q4t,q4u,q4k,q4l,q4m,q3k,q3y,e1,e0,x20q,x3q,hd2,x4q,qn9 hlt,c1,ht,nt,nf,x0q,x15q,x1q,x21q,w1,hp,q1mm,hcT,hcE,w3,w4,w5,e2]
     exact x1
   |false =>
    simp only [x1q,x21q]
    have hp:=iE (i+1+szL s[k].Then) n um a (st++[⟨i,false,noTx⟩]) (by omega) (by omega) (by omega) (by omega) (by simp;omega) hI2
    have hinv:=qiu f rc fs sz _ s[k].Else rfl hve n (i+1+szL s[k].Then) um a (st++[⟨i,false,noTx⟩]) hI2
    generalize exL f rc fs sz s[k].Else (i+1+szL s[k].Then) um a (st++[⟨i,false,noTx⟩])=v at hp hinv
    obtain ⟨vb,vm,va,vs⟩:=v
    obtain ⟨g1,g2,g3⟩:=hinv
    simp only [x12q,List.length_singleton] at g1 g2 g3
    cases vb with
    |false =>
     simp only [x1q,x21q]
     refine ⟨.inl (false,q1mm f rc e fs bd sz vm va vs),qfp ?_,rfl⟩
     simp only [qfu,z2l,z2m,z2n,z2o,z2p,gL,dL,eC,wI,p0,aL,dQ,uL,q7r,qn6,x26q,x27q,x28q,qqq,q4i,q4j,q4n,q4o,q4p,q4q,q4r,q4s,q4t,q4u,q4k,q4l,q4m,q3k,q3y,e1,e0,x20q,x3q,hd2,x4q,qn9 hlt,c1,ht,nf,x0q,x11q,w1,hcT,w2,hp,q1mm]
    |true =>
     rw [if_pos rfl]
     obtain ⟨x,x1,x2⟩:=ihm (k+1) (i+szR s[k]) (n+szL s[k].Else) vm va vs (by omega) (by omega) (by omega) (by omega) (by omega) (by omega) g1
     refine ⟨x,qfp ?_,x2⟩
     simp only [qfu,z2l,z2m,z2n,z2o,z2p,gL,dL,eC,wI,p0,aL,dQ,uL,q7r,qn6,x26q,x27q,x28q,qqq,q4i,q4j,q4n,q4o,q4p,q4q,q4r,q4s,q4t,q4u,q4k,q4l,q4m,q3k,q3y,e1,e0,x20q,x3q,hd2,x4q,qn9 hlt,c1,ht,nf,x0q,x15q,x11q,x1q,x21q,w1,hcT,w2,hp,q1mm,hcE,w3,w4,w5,e2]
     exact x1
  ·have c1:(s[k].Kind==1)=false:=by simpa using k1
   obtain ⟨n1,n2⟩:=hnil k1
   have htx':=htx k1
   have hex:=expP_s hI.val s[k].Text (by omega)
   have hxs:=qiz m s[k].Text
   have hR1:szR s[k]=1:=by rw [hsz,n1,n2];rfl
   rw [exR_eq,if_neg k1]
   by_cases k2:s[k].Kind=2
   ·have c2:(s[k].Kind==2)=true:=by simpa using k2
    have g1:decide ((a.length+1+(a.length+1) / 4+192)*32≤281474976710656)=true:=decide_eq_true (by omega)
    have g2:decide (a.length+1≤9223372036854775807)=true:=decide_eq_true (by omega)
    rw [if_pos k2,if_pos rfl]
    obtain ⟨x,x1,x2⟩:=ihm (k+1) (i+szR s[k]) n m (a++[⟨s[k].Act,exT m s[k].Text,s[k].N⟩]) (st++[⟨i,false,exT m s[k].Text⟩]) (by omega) (by omega) (by omega) (by omega) (by simp;omega) (by simp;omega) hI
    rw [x12q] at x1
    refine ⟨x,qfp ?_,x2⟩
    simp only [qfu,z2l,z2m,z2n,z2o,z2p,gL,dL,eC,wI,p0,aL,dQ,uL,q7r,qn6,x26q,x27q,x28q,qqq,q4i,q4j,q4n,q4o,q4p,q4q,q4r,q4s,q4t,q4u,q4k,q4l,q4m,q3k,q3y,e1,e0,x20q,x3q,hd2,x4q,qn9 hlt,c1,c2,x1q,x21q,hex,nf,nx,x0q,x17q,x24q,x9q,x8q,x13q,x19q,g1,g2,hcT,hcE,w3,w4,w5,e2]
    exact x1
   ·have c2:(s[k].Kind==2)=false:=by simpa using k2
    rw [if_neg k2]
    by_cases k3:s[k].Kind=3
    ·have c3:(s[k].Kind==3)=true:=by simpa using k3
     have hvb:=hvar k3
     have hnm:s[k].Name.size≠0∧s[k].Name.size≤60:=by
      unfold varB at hvb
      simp at hvb
      omega
     have g1:decide (s[k].Name.size≤maxLen)=true:=decide_eq_true (by unfold maxLen;omega)
     have g2:decide ((exT m s[k].Text).size≤maxLen)=true:=decide_eq_true (by unfold maxLen;omega)
     have g3:decide (m.length<maxLen)=true:=decide_eq_true (by unfold maxLen;omega)
     rw [if_pos k3,if_pos rfl]
     obtain ⟨x,x1,x2⟩:=ihm (k+1) (i+szR s[k]) (n+1) (putM m s[k].Name (exT m s[k].Text)) a (st++[⟨i,false,exT m s[k].Text⟩]) (by omega) (by omega) (by omega) (by omega) (by omega) (by simp;omega) (hI.set hnm.1 (by omega))
     refine ⟨x,qfp ?_,x2⟩
     simp only [qfu,z2l,z2m,z2n,z2o,z2p,gL,dL,eC,wI,p0,aL,dQ,uL,q7r,qn6,x26q,x27q,x28q,qqq,q4i,q4j,q4n,q4o,q4p,q4q,q4r,q4s,q4t,q4u,q4k,q4l,q4m,q3k,q3y,e1,e0,x20q,x3q,hd2,x4q,qn9 hlt,c1,c2,c3,x1q,x21q,hex,nf,nx,x0q,g1,g2,g3,hcT,hcE,w3,w4,w5,e2]
     exact x1
    ·have c3:(s[k].Kind==3)=false:=by simpa using k3
     rw [if_neg k3]
     simp only [x1q,x21q]
     refine ⟨.inl (false,q1mm f rc e fs bd sz m a (st++[⟨i,false,noTx⟩])),qfp ?_,rfl⟩
     simp only [qfu,z2l,z2m,z2n,z2o,z2p,gL,dL,eC,wI,p0,aL,dQ,uL,q7r,qn6,x26q,x27q,x28q,qqq,q4i,q4j,q4n,q4o,q4p,q4q,q4r,q4s,q4t,q4u,q4k,q4l,q4m,q3k,q3y,e1,e0,x20q,x3q,hd2,x4q,qn9 hlt,c1,c2,c3,x1q,x21q,nf,x0q,q1mm]
theorem q1mg (hH:HdrOk fs) (hE:envB f rc):∀ (q:Nat) (s:List S50),szL s=q→s.length≤big→okL s→okvL s→q1me f rc e fs bd sz s:=by
 intro q
 induction q using Nat.strongRecOn with
 |_ q ihq =>
  intro s hq hl ho hv i n m a st h0 h1 h2 h3 h4 hI
  subst hq
  have hT:∀ r∈s,r.Kind=1→∀ na ac ns st,q1mn f rc e fs bd sz na ac ns st (tOf r):=fun r hr hk na ac ns st=>by
   have hok:=((qv6 r).1 (qv5 ho hr)).1
   have hvt:=qve (okvR hv hr).1 (by simpa using hk)
   have hin:=(qvg hvt).2
   refine q1mo f rc e fs bd sz na ac ns st hH hE _ (tOf r) rfl hok hvt ?_
   unfold innerB at hin
   split at hin
   ·have:(tOf r).Tests.length=1:=by simpa using hin
    omega
   ·split at hin
    ·simp at hin;omega
    ·have:(tOf r).Tests.length=0:=by simpa using hin
     omega
  obtain ⟨x,x1,x2⟩:=q1mf f rc e fs bd sz s hl ho hv hT (fun r hr=>by
   obtain ⟨_,⟨ht1,ht2⟩,⟨he1,he2⟩,_⟩:=(qv6 r).1 (qv5 ho hr)
   obtain ⟨_,hvt,hve⟩:=okvR hv hr
   exact ⟨ihq (szL r.Then) (q1ht hr) r.Then rfl ht1 ht2 hvt,ihq (szL r.Else) (q1hs hr) r.Else rfl he1 he2 hve⟩) s.length 0 i n m a st (by omega) h0 (by rw [x10q];exact h1) (by rw [x10q];exact h2) (by rw [x10q];exact h3) (by rw [x10q];exact h4) hI
  rw [x10q] at x2
  have x1:qfn i s s.length 0 f rc e fs bd sz a.length m st.length a st=some x:=x1
  refine qfm ?_
  simp only [qfy,gL,dL,lN,qn6,x26q,x27q,x28q,x20q,x1,x0q]
  generalize exL f rc fs sz s i m a st=v at x2
  obtain ⟨vb,vm,va,vs⟩:=v
  rcases x with x|x
  ·simp only [Sum.elim_inl] at x2 ⊢
   injection x2 with y1 y2
   rw [y2,y1]
  ·simp only [Sum.elim_inr] at x2 ⊢
   injection x2 with y1 y2
   rw [y2]
   have y1:true=vb:=y1
   rw [←y1]
end
end Go.Proofs.YtokahibbkdbndaaGreatDoor
