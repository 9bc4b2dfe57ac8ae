/- One instance of test of a run: it is tsT. -/
import Derived.Test.YtokahibbkdbndaaGreatDoorZ32
import Derived.Test.YtokahibbkdbndaaGreatDoorZ29
import Derived.Test.YtokahibbkdbndaaGreatDoorZ31
namespace Go.Proofs.YtokahibbkdbndaaGreatDoor
open Go.RowKit
section
variable (f:ByteArray) (rc:List S118) (i:ByteArray) (fs:List S55) (bd:List Int) (sz:Int) (na:Nat) (ac:List S45) (ns:Nat) (st:List S62)
theorem q126 (t:S48) (mm:MM) (hl:rc.length≤60):∀ (m k:Nat) (acc:List ByteArray),k+m=rc.length→acc.length≤k→qdu acc.length rc rc.length k f rc i fs bd sz na t.Kind t.Tests t.Name t.Pattern t.Text t.N acc mm ns ac st=some (((),((),(acc.length+m,(rc,((rc.length:Int),((rc.length:Int),false)))))),((f,(rc,(i,(fs,(bd,(sz,((),(na,())))))))),((t.Kind,(t.Tests,(t.Name,(t.Pattern,(t.Text,t.N))))),(acc++(rc.drop k).map (fun x=>x.Address),(mm,(ns,(ac,st))))))):=by
 intro m
 induction m with
 |zero =>
  intro k acc hk ha
  have hk:k=rc.length:=by omega
  subst hk
  refine qdw ?_
  rw [List.drop_length]
  simp only [qe0,q26i,q26z,EC.decL_encL,EC.isL_encL,EC.encL_length,q268,q26a,qlh,q3o]
  simp
 |succ m ih =>
  intro k acc hk ha
  have hlt:k<rc.length:=by omega
  have e1:decide ((k:Int)<(rc.length:Int))=true:=by simp;omega
  have e0:decide ((0:Int)≤(k:Int))=true:=by simp
  have e2:IntKind.i64.wrap ((k:Int)+1)=((k+1:Nat):Int):=q27y hlt (by omega)
  have e3:decide (k<rc.length)=true:=by simp [hlt]
  have g1:decide ((acc.length+1+(acc.length+1) / 4+192)*16≤281474976710656)=true:=decide_eq_true (by omega)
  have g2:decide (acc.length+1≤9223372036854775807)=true:=decide_eq_true (by omega)
  have hi:=ih (k+1) (acc++[rc[k].Address]) (by omega) (by simp;omega)
  rw [List.length_append] at hi
  refine qdw ?_
  rw [q97 hlt,List.map_cons]
  simp only [qe0,q26i,q26z,EC.decL_encL,EC.isL_encL,EC.encL_length,q268,q26a,qlh,q3o,e1,e0,e3,if_true,Int.toNat_natCast,Bool.and_self,qik hlt,List.all_cons,List.all_nil,List.length_cons,List.length_nil,Nat.zero_add,beq_self_eq_true,g1,g2,e2]
  rw [show acc++rc[k].Address::(rc.drop (k+1)).map (fun x=>x.Address)=acc++[rc[k].Address]++(rc.drop (k+1)).map (fun x=>x.Address) by simp,show acc.length+(m+1)=acc.length+[rc[k].Address].length+m by simp;omega]
  exact hi
def q12g (t:S48):Prop:=∀ (n:Nat) (mm:MM),n≤1000000→Inv n mm→qdr t.Kind t.Tests t.Name t.Pattern t.Text t.N f rc i fs bd sz na mm ns ac st=some ((tsT f rc fs sz t mm).1,((tsT f rc fs sz t mm).1,((f,(rc,(i,(fs,(bd,(sz,((),(na,())))))))),((tsT f rc fs sz t mm).2,(ns,(ac,st))))))
theorem q127 (t:S48) (n:Nat) (hn:n≤1000000) (hl:t.Tests.length≤2000000) (ih0:∀ x∈t.Tests,q12g f rc i fs bd sz na ac ns st x):∀ (m k:Nat) (mm:MM),k+m=t.Tests.length→Inv n mm→∃ x,qe1 t.Tests t.Tests.length k f rc i fs bd sz na t.Kind t.Tests t.Name t.Pattern t.Text t.N mm ns ac st=some x ∧
  Sum.elim (fun r=>(r.1,(r.1,r.2))) (fun r=>((r.2.2.1.1==3),((r.2.2.1.1==3),(r.2.1,(r.2.2.2.1,r.2.2.2.2))))) x=((tsA f rc fs sz t.Kind (t.Tests.drop k) mm).1,((tsA f rc fs sz t.Kind (t.Tests.drop k) mm).1,((f,(rc,(i,(fs,(bd,(sz,((),(na,())))))))),((tsA f rc fs sz t.Kind (t.Tests.drop k) mm).2,(ns,(ac,st)))))):=by
 intro m
 induction m with
 |zero =>
  intro k mm hk hI
  have hk:k=t.Tests.length:=by omega
  subst hk
  refine ⟨.inr (((),((),(t.Tests,((t.Tests.length:Int),((t.Tests.length:Int),false))))),((f,(rc,(i,(fs,(bd,(sz,((),(na,())))))))),((t.Kind,(t.Tests,(t.Name,(t.Pattern,(t.Text,t.N))))),(mm,(ns,(ac,st)))))),qe3 (by
   simp only [qe8,q26i,q26z,EC.decL_encL,EC.isL_encL,EC.encL_length,q276,q3v,q3w,q3x,q3y,q3z,q40]
   simp),?_⟩
  rw [List.drop_length,tsA];rfl
 |succ m ih =>
  intro k mm hk hI
  have hlt:k<t.Tests.length:=by omega
  have e1:decide ((k:Int)<(t.Tests.length:Int))=true:=by simp;omega
  have e0:decide ((0:Int)≤(k:Int))=true:=by simp
  have e2:IntKind.i64.wrap ((k:Int)+1)=((k+1:Nat):Int):=q27y hlt (by omega)
  have e3:decide (k<t.Tests.length)=true:=by simp [hlt]
  have h0:=ih0 t.Tests[k] (List.getElem_mem hlt) n mm hn hI
  have hI2:=q11c f rc fs sz n t.Tests[k] mm hI
  rw [q97 hlt,tsA]
  generalize tsT f rc fs sz t.Tests[k] mm=u at h0 hI2
  obtain ⟨x,h1,h2⟩:=ih (k+1) u.2 (by omega) hI2
  by_cases hb:u.1=(t.Kind==4)
  ·have hb':(u.1==(t.Kind==4))=true:=by simpa using hb
   rw [if_pos hb]
   refine ⟨.inl ((t.Kind==4),((f,(rc,(i,(fs,(bd,(sz,((),(na,())))))))),(u.2,(ns,(ac,st))))),qe3 ?_,rfl⟩
   simp only [qe8,q26i,q26z,EC.decL_encL,EC.isL_encL,EC.encL_length,q276,q3v,q3w,q3x,q3y,q3z,q40,e1,e0,e3,if_true,Int.toNat_natCast,Bool.and_self,qik hlt,h0,Option.bind_some,hb']
  ·have hb':(u.1==(t.Kind==4))=false:=by simpa using hb
   rw [if_neg hb]
   refine ⟨x,qe3 ?_,h2⟩
   simp only [qe8,q26i,q26z,EC.decL_encL,EC.isL_encL,EC.encL_length,q276,q3v,q3w,q3x,q3y,q3z,q40,e1,e0,e3,if_true,Int.toNat_natCast,Bool.and_self,qik hlt,h0,Option.bind_some,hb',Bool.false_eq_true,if_false,e2]
   exact h1
theorem q12h (hH:HdrOk fs) (hE:envB f rc):∀ (q:Nat) (t:S48),tzT t=q→okT t→okvT t→t.Tests.length≤2000000→q12g f rc i fs bd sz na ac ns st t:=by
 intro q
 induction q using Nat.strongRecOn with
 |_ q ihq =>
  intro t hq ho hv hlen n mm hn hI
  subst hq
  obtain ⟨hl,hol⟩:=(okT_eq t).1 ho
  obtain ⟨⟨k1,k9⟩,hinn⟩:=qpg hv
  obtain ⟨ht1,ht2⟩:=qph hv
  obtain ⟨he1,he2,he3⟩:=hE
  have hkid:∀ x∈t.Tests,x.Tests.length≤60:=fun x hx=>by
   have:=(qpg (qpf hv hx)).2
   unfold innerB at this
   split at this
   ·have:x.Tests.length=1:=by simpa using this
    omega
   ·split at this
    ·simp at this;omega
    ·have:x.Tests.length=0:=by simpa using this
     omega
  have ihc:∀ x∈t.Tests,q12g f rc i fs bd sz na ac ns st x:=fun x hx=>ihq (tzT x) (by have:=tz_mem hx;have e:=tzT_eq t;omega) x rfl (qpb hol hx) (qpf hv hx) (by have:=hkid x hx;omega)
  have hvl:(valsL fs t.Name).length≤60:=Nat.le_trans (q11o _ _) hH.len
  have hvs:∀ v∈valsL fs t.Name,v.size≤2000000:=fun v hv=>by
   unfold valsL at hv
   obtain ⟨x,hx,rfl⟩:=List.mem_map.1 hv
   have:=(hH.all x (List.mem_filter.1 hx).1).2
   omega
  refine qdt ?_
  rw [tsT_eq]
  by_cases h2:t.Kind=2
  ·rw [if_pos h2]
   cases hts:t.Tests with
   |nil =>
    unfold innerB at hinn
    rw [if_pos h2,hts] at hinn
    cases hinn
   |cons x l =>
    have hx:x∈t.Tests:=by rw [hts];exact List.mem_cons_self ..
    have h0:=ihc x hx n mm hn hI
    rw [tsH]
    have c2:(t.Kind==2)=true:=by simpa using h2
    simp only [qec,q26i,q26z,EC.decL_encL,EC.isL_encL,EC.encL_length,q276,q3v,q3w,q3x,q3y,q3z,q40,c2,if_true]
    simp only [Int.toNat_zero,List.length_cons,List.getD_cons_zero,h0,Option.bind_some]
    simp
  have c2:(t.Kind==2)=false:=by simpa using h2
  rw [if_neg h2]
  by_cases h3:t.Kind=3
  ·rw [if_pos (.inl h3)]
   obtain ⟨x,h1,h2'⟩:=q127 f rc i fs bd sz na ac ns st t n hn hlen ihc t.Tests.length 0 mm (by omega) hI
   rw [List.drop_zero] at h2'
   have h1:qe1 t.Tests t.Tests.length 0 f rc i fs bd sz na t.Kind t.Tests t.Name t.Pattern t.Text t.N mm ns ac st=some x:=h1
   have c3:(t.Kind==3)=true:=by simpa using h3
   simp only [qec,q26i,q26z,EC.decL_encL,EC.isL_encL,EC.encL_length,q276,q3v,q3w,q3x,q3y,q3z,q40,c2,c3,if_true,Bool.false_eq_true,if_false,h1,Option.bind_some]
   rw [←h2']
   rcases x with x|x <;> rfl
  have c3:(t.Kind==3)=false:=by simpa using h3
  by_cases h4:t.Kind=4
  ·rw [if_pos (.inr h4)]
   obtain ⟨x,h1,h2'⟩:=q127 f rc i fs bd sz na ac ns st t n hn hlen ihc t.Tests.length 0 mm (by omega) hI
   rw [List.drop_zero] at h2'
   have h1:qe1 t.Tests t.Tests.length 0 f rc i fs bd sz na t.Kind t.Tests t.Name t.Pattern t.Text t.N mm ns ac st=some x:=h1
   have c4:(t.Kind==4)=true:=by simpa using h4
   simp only [qec,q26i,q26z,EC.decL_encL,EC.isL_encL,EC.encL_length,q276,q3v,q3w,q3x,q3y,q3z,q40,c2,c3,c4,if_true,Bool.false_eq_true,if_false,h1,Option.bind_some]
   rw [←h2']
   rcases x with x|x <;> rfl
  have c4:(t.Kind==4)=false:=by simpa using h4
  rw [if_neg (by rintro (h|h);exact h3 h;exact h4 h)]
  by_cases h5:t.Kind=5
  ·rw [if_pos h5]
   have c5:(t.Kind==5)=true:=by simpa using h5
   have hf:=q12b f rc i fs bd sz na ac ns st hH t.Name (by omega) mm
   have hm:=q12d f rc i fs bd sz na ac ns st t (by omega) (valsL fs t.Name) (by omega) hvs n hn mm hI
   simp only [qec,q26i,q26z,EC.decL_encL,EC.isL_encL,EC.encL_length,q276,q3v,q3w,q3x,q3y,q3z,q40,c2,c3,c4,c5,if_true,Bool.false_eq_true,if_false,hf,Option.bind_some,hm]
  have c5:(t.Kind==5)=false:=by simpa using h5
  rw [if_neg h5]
  by_cases h6:t.Kind=6
  ·rw [if_pos h6]
   have c6:(t.Kind==6)=true:=by simpa using h6
   have hm:=q12d f rc i fs bd sz na ac ns st t (by omega) [f] (by simp) (fun v hv=>by obtain rfl:v=f:=(by simpa using hv);omega) n hn mm hI
   have hm:qd5 t.Kind t.Tests t.Name t.Pattern t.Text t.N 1 f rc i fs bd sz na [f] mm ns ac st=_:=hm
   have hd:q26v.decL [[(C.str f)]]=[f]:=rfl
   have hi:q26v.isL [[(C.str f)]]=true:=rfl
   simp only [qec,q26i,q26z,EC.decL_encL,EC.isL_encL,EC.encL_length,q276,q3v,q3w,q3x,q3y,q3z,q40,c2,c3,c4,c5,c6,if_true,Bool.false_eq_true,if_false,hd]
   first
    |(rw [hm];rfl)
    |(simp only [hm,Option.bind_some])
  have c6:(t.Kind==6)=false:=by simpa using h6
  rw [if_neg h6]
  by_cases h7:t.Kind=7
  ·rw [if_pos h7]
   have c7:(t.Kind==7)=true:=by simpa using h7
   have ha:=q126 f rc i fs bd sz na ac ns st t mm he2 rc.length 0 [] (by omega) (by simp)
   have ha:qdu 0 rc rc.length 0 f rc i fs bd sz na t.Kind t.Tests t.Name t.Pattern t.Text t.N [] mm ns ac st=_:=ha
   rw [List.drop_zero,List.nil_append,List.length_nil,Nat.zero_add] at ha
   have hm:=q12d f rc i fs bd sz na ac ns st t (by omega) (rc.map fun x=>x.Address) (by simp;omega) (fun v hv=>by
    obtain ⟨x,hx,rfl⟩:=List.mem_map.1 hv
    have:=he3 x hx
    omega) n hn mm hI
   rw [List.length_map] at hm
   simp only [qec,q26i,q26z,EC.decL_encL,EC.isL_encL,EC.encL_length,q276,q3v,q3w,q3x,q3y,q3z,q40,qg,c2,c3,c4,c5,c6,c7,if_true,Bool.false_eq_true,if_false,ha,Option.bind_some,hm]
  have c7:(t.Kind==7)=false:=by simpa using h7
  rw [if_neg h7]
  by_cases h8:t.Kind=8
  ·rw [if_pos h8]
   have c8:(t.Kind==8)=true:=by simpa using h8
   simp only [qec,q26i,q26z,EC.decL_encL,EC.isL_encL,EC.encL_length,q276,q3v,q3w,q3x,q3y,q3z,q40,c2,c3,c4,c5,c6,c7,c8,if_true,Bool.false_eq_true,if_false]
  have c8:(t.Kind==8)=false:=by simpa using h8
  rw [if_neg h8]
  by_cases h9:t.Kind=9
  ·rw [if_pos h9]
   have c9:(t.Kind==9)=true:=by simpa using h9
   have hf:=q12b f rc i fs bd sz na ac ns st hH t.Name (by omega) mm
   simp only [qec,q26i,q26z,EC.decL_encL,EC.isL_encL,EC.encL_length,q276,q3v,q3w,q3x,q3y,q3z,q40,c2,c3,c4,c5,c6,c7,c8,c9,if_true,Bool.false_eq_true,if_false,hf,Option.bind_some]
  have c9:(t.Kind==9)=false:=by simpa using h9
  rw [if_neg h9]
  simp only [qec,q26i,q26z,EC.decL_encL,EC.isL_encL,EC.encL_length,q276,q3v,q3w,q3x,q3y,q3z,q40,c2,c3,c4,c5,c6,c7,c8,c9,if_true,Bool.false_eq_true,if_false]
end
end Go.Proofs.YtokahibbkdbndaaGreatDoor
namespace Go.Proofs.YtokahibbkdbndaaGreatDoor
open Go.RowKit
theorem x_note (i:Int) (b:Bool) (s:ByteArray) (st:List S62) (h:st.length≤10000):qen i b s st.length st=some ((),((),((st++[(⟨i,b,s⟩:S62)]).length,st++[(⟨i,b,s⟩:S62)]))):=by
 have g1:decide ((st.length+1+(st.length+1) / 4+192)*32≤281474976710656)=true:=decide_eq_true (by omega)
 have g2:decide (st.length+1≤9223372036854775807)=true:=decide_eq_true (by omega)
 refine qep ?_
 simp only [qet,q26z,EC.decL_encL,EC.isL_encL,all_62,apd_62,List.all_cons,List.all_nil,List.length_cons,List.length_nil,Nat.zero_add,beq_self_eq_true,Bool.and_self,g1,g2,if_true,List.length_append]
section
variable (f:ByteArray) (rc:List S118) (e:ByteArray) (fs:List S55) (bd:List Int) (sz:Int)
abbrev q280 (m:MM) (a:List S45) (st:List S62):=(((f,(rc,(e,(fs,(bd,(sz,((),(a.length,())))))))),(m,(st.length,(a,st)))):(ByteArray × (List S118) × ByteArray × (List S55) × (List Int) × Int × Unit × Nat × Unit) × MM × Nat × List S45 × List S62)
def q128 (s:List S50):Prop:=∀ (i:Int) (n:Nat) (m:MM) (a:List S45) (st:List S62),0≤i→i+szL s≤1000→n+szL s≤1000→a.length+szL s≤1000→st.length+szL s≤1000→Inv n m →
 qcj s i f rc e fs bd sz a.length m st.length a st=some ((exL f rc fs sz s i m a st).1,((exL f rc fs sz s i m a st).1,q280 f rc e fs bd sz (exL f rc fs sz s i m a st).2.1 (exL f rc fs sz s i m a st).2.2.1 (exL f rc fs sz s i m a st).2.2.2))
theorem q129 (s:List S50) (hl:s.length≤big) (ho:okL s) (hv:okvL s) (hT:∀ r∈s,r.Kind=1→∀ na ac ns st,q12g f rc e fs bd sz na ac ns st (tOf r)) (ihE:∀ r∈s,q128 f rc e fs bd sz r.Then∧q128 f rc e fs bd sz r.Else) :
  ∀ (q k:Nat) (i:Int) (n:Nat) (m:MM) (a:List S45) (st:List S62),k+q=s.length→0≤i→i+szL (s.drop k)≤1000→n+szL (s.drop k)≤1000→a.length+szL (s.drop k)≤1000→st.length+szL (s.drop k)≤1000→Inv n m →
  ∃ x,qcm i s s.length k f rc e fs bd sz a.length m st.length a st=some x∧Sum.elim (fun r=>(r.1,r.2)) (fun r=>(true,r.2)) x=((exL f rc fs sz (s.drop k) i m a st).1,q280 f rc e fs bd sz (exL f rc fs sz (s.drop k) i m a st).2.1 (exL f rc fs sz (s.drop k) i m a st).2.2.1 (exL f rc fs sz (s.drop k) i m a st).2.2.2):=by
 intro q
 induction q with
 |zero =>
  intro k i n m a st hk h0 h1 h2 h3 h4 hI
  have hk:k=s.length:=by omega
  subst hk
  refine ⟨.inr (((),(i,(s,((s.length:Int),((s.length:Int),false))))),q280 f rc e fs bd sz m a st),qco (by
   simp only [qct,q26i,q26z,EC.decL_encL,EC.isL_encL,EC.encL_length,q277,q41,q42,q46,q47,q48,q49,q4a,q4b,q4c,q4d,q43,q44,q45,q267,q269]
   simp),?_⟩
  rw [List.drop_length,exL];rfl
 |succ q ihm =>
  intro k i n m a st hk h0 h1 h2 h3 h4 hI
  have hlt:k<s.length:=by omega
  have e1:decide ((k:Int)<(s.length:Int))=true:=by simp;omega
  have e0:decide ((0:Int)≤(k:Int))=true:=by simp
  have e2:IntKind.i64.wrap ((k:Int)+1)=((k+1:Nat):Int):=q27y hlt (by unfold big at hl;omega)
  have hd2:decide (k<s.length)=true:=by simp [hlt]
  have hmem:s[k]∈s:=List.getElem_mem hlt
  have hdr:szL (s.drop k)=szR s[k]+szL (s.drop (k+1)):=by rw [q97 hlt];rfl
  rw [hdr] at h1 h2 h3 h4
  have hsz:=q27t s[k]
  obtain ⟨_,⟨ht1,ht2⟩,⟨he1,he2⟩,_⟩:=(q27h s[k]).1 (qpa ho hmem)
  obtain ⟨hh,hvt,hve⟩:=okvR hv hmem
  obtain ⟨hkk,htx,hvar,hnil⟩:=qtd hh
  obtain ⟨iT,iE⟩:=ihE s[k] hmem
  have hcT:=size_s s[k].Then ht1 ht2
  have hcE:=size_s s[k].Else he1 he2
  rw [q27x (by omega)] at hcT hcE
  have w1:IntKind.i64.wrap (i+1)=i+1:=q27x (by omega)
  have w2:IntKind.i64.wrap (i+1+(szL s[k].Then:Int))=i+1+szL s[k].Then:=q27x (by omega)
  have w3:IntKind.i64.wrap (1+(szL s[k].Then:Int))=1+szL s[k].Then:=q27x (by omega)
  have w4:IntKind.i64.wrap (1+(szL s[k].Then:Int)+(szL s[k].Else:Int))=1+szL s[k].Then+szL s[k].Else:=q27x (by omega)
  have w5:IntKind.i64.wrap (i+(1+(szL s[k].Then:Int)+(szL s[k].Else:Int)))=i+szR s[k]:=by rw [q27x (by omega)];omega
  have hst:st.length≤10000:=by omega
  have nt:=x_note i true (ByteArray.mk (List.toArray [])) st hst
  have nf:=x_note i false (ByteArray.mk (List.toArray [])) st hst
  have nx:=x_note i false (exT m s[k].Text) st hst
  have nt:_=some ((),((),((st++[(⟨i,true,noTx⟩:S62)]).length,st++[(⟨i,true,noTx⟩:S62)]))):=nt
  have nf:_=some ((),((),((st++[(⟨i,false,noTx⟩:S62)]).length,st++[(⟨i,false,noTx⟩:S62)]))):=nf
  have hma:m.length≤10000:=by have:=hI.all;omega
  rw [q97 hlt,exL]
  by_cases k1:s[k].Kind=1
  ·have c1:(s[k].Kind==1)=true:=by simpa using k1
   have ht:qdr s[k].Test_Kind s[k].Test_Tests s[k].Test_Name s[k].Test_Pattern s[k].Test_Text s[k].Test_N f rc e fs bd sz a.length m st.length a st=_:=hT s[k] hmem k1 a.length a st.length st n m (by omega) hI
   have hI2:=q11c f rc fs sz n (tOf s[k]) m hI
   rw [q281,if_pos k1]
   generalize tsT f rc fs sz (tOf s[k]) m=u at ht hI2
   obtain ⟨ub,um⟩:=u
   cases ub with
   |true =>
    rw [if_pos rfl]
    have hp:=iT (i+1) n um a (st++[⟨i,true,noTx⟩]) (by omega) (by omega) (by omega) (by omega) (by simp;omega) hI2
    have hinv:=qed f rc fs sz _ s[k].Then rfl hvt n (i+1) um a (st++[⟨i,true,noTx⟩]) hI2
    generalize exL f rc fs sz s[k].Then (i+1) um a (st++[⟨i,true,noTx⟩])=v at hp hinv
    obtain ⟨vb,vm,va,vs⟩:=v
    obtain ⟨g1,g2,g3⟩:=hinv
    simp only [List.length_append,List.length_singleton] at g1 g2 g3
    cases vb with
    |false =>
     simp only [Bool.false_eq_true,if_false]
     refine ⟨.inl (false,q280 f rc e fs bd sz vm va vs),qco ?_,rfl⟩
     simp only [qct,q26i,q26z,EC.decL_encL,EC.isL_encL,EC.encL_length,q277,q41,q42,q46,q47,q48,q49,q4a,q4b,q4c,q4d,q43,q44,q45,q267,q269,e1,e0,if_true,Int.toNat_natCast,hd2,Bool.and_self,qik hlt,c1,ht,nt,nf,Option.bind_some,Bool.not_true,Bool.not_false,Bool.false_eq_true,if_false,w1,hp,q280]
    |true =>
     rw [if_pos rfl]
     obtain ⟨x,x1,x2⟩:=ihm (k+1) (i+szR s[k]) (n+szL s[k].Then) vm va vs (by omega) (by omega) (by omega) (by omega) (by omega) (by omega) g1
     refine ⟨x,qco ?_,x2⟩
     simp only [qct,q26i,q26z,EC.decL_encL,EC.isL_encL,EC.encL_length,q277,q41,q42,q46,q47,q48,q49,q4a,q4b,q4c,q4d,q43,q44,q45,q267,q269,e1,e0,if_true,Int.toNat_natCast,hd2,Bool.and_self,qik hlt,c1,ht,nt,nf,Option.bind_some,Bool.not_true,Bool.false_eq_true,if_false,w1,hp,q280,hcT,hcE,w3,w4,w5,e2]
     exact x1
   |false =>
    simp only [Bool.false_eq_true,if_false]
    have hp:=iE (i+1+szL s[k].Then) n um a (st++[⟨i,false,noTx⟩]) (by omega) (by omega) (by omega) (by omega) (by simp;omega) hI2
    have hinv:=qed f rc fs sz _ s[k].Else rfl hve n (i+1+szL s[k].Then) um a (st++[⟨i,false,noTx⟩]) hI2
    generalize exL f rc fs sz s[k].Else (i+1+szL s[k].Then) um a (st++[⟨i,false,noTx⟩])=v at hp hinv
    obtain ⟨vb,vm,va,vs⟩:=v
    obtain ⟨g1,g2,g3⟩:=hinv
    simp only [List.length_append,List.length_singleton] at g1 g2 g3
    cases vb with
    |false =>
     simp only [Bool.false_eq_true,if_false]
     refine ⟨.inl (false,q280 f rc e fs bd sz vm va vs),qco ?_,rfl⟩
     simp only [qct,q26i,q26z,EC.decL_encL,EC.isL_encL,EC.encL_length,q277,q41,q42,q46,q47,q48,q49,q4a,q4b,q4c,q4d,q43,q44,q45,q267,q269,e1,e0,if_true,Int.toNat_natCast,hd2,Bool.and_self,qik hlt,c1,ht,nf,Option.bind_some,Bool.not_false,w1,hcT,w2,hp,q280]
    |true =>
     rw [if_pos rfl]
     obtain ⟨x,x1,x2⟩:=ihm (k+1) (i+szR s[k]) (n+szL s[k].Else) vm va vs (by omega) (by omega) (by omega) (by omega) (by omega) (by omega) g1
     refine ⟨x,qco ?_,x2⟩
     simp only [qct,q26i,q26z,EC.decL_encL,EC.isL_encL,EC.encL_length,q277,q41,q42,q46,q47,q48,q49,q4a,q4b,q4c,q4d,q43,q44,q45,q267,q269,e1,e0,if_true,Int.toNat_natCast,hd2,Bool.and_self,qik hlt,c1,ht,nf,Option.bind_some,Bool.not_true,Bool.not_false,Bool.false_eq_true,if_false,w1,hcT,w2,hp,q280,hcE,w3,w4,w5,e2]
     exact x1
  ·have c1:(s[k].Kind==1)=false:=by simpa using k1
   obtain ⟨n1,n2⟩:=hnil k1
   have htx':=htx k1
   have hex:=expP_s hI.val s[k].Text (by omega)
   have hxs:=qef m s[k].Text
   have hR1:szR s[k]=1:=by rw [hsz,n1,n2];rfl
   rw [q281,if_neg k1]
   by_cases k2:s[k].Kind=2
   ·have c2:(s[k].Kind==2)=true:=by simpa using k2
    have g1:decide ((a.length+1+(a.length+1) / 4+192)*32≤281474976710656)=true:=decide_eq_true (by omega)
    have g2:decide (a.length+1≤9223372036854775807)=true:=decide_eq_true (by omega)
    rw [if_pos k2,if_pos rfl]
    obtain ⟨x,x1,x2⟩:=ihm (k+1) (i+szR s[k]) n m (a++[⟨s[k].Act,exT m s[k].Text,s[k].N⟩]) (st++[⟨i,false,exT m s[k].Text⟩]) (by omega) (by omega) (by omega) (by omega) (by simp;omega) (by simp;omega) hI
    rw [List.length_append] at x1
    refine ⟨x,qco ?_,x2⟩
    simp only [qct,q26i,q26z,EC.decL_encL,EC.isL_encL,EC.encL_length,q277,q41,q42,q46,q47,q48,q49,q4a,q4b,q4c,q4d,q43,q44,q45,q267,q269,e1,e0,if_true,Int.toNat_natCast,hd2,Bool.and_self,qik hlt,c1,c2,Bool.false_eq_true,if_false,hex,nf,nx,Option.bind_some,List.all_cons,List.all_nil,List.length_cons,List.length_nil,Nat.zero_add,beq_self_eq_true,g1,g2,hcT,hcE,w3,w4,w5,e2]
    exact x1
   ·have c2:(s[k].Kind==2)=false:=by simpa using k2
    rw [if_neg k2]
    by_cases k3:s[k].Kind=3
    ·have c3:(s[k].Kind==3)=true:=by simpa using k3
     have hvb:=hvar k3
     have hnm:s[k].Name.size≠0∧s[k].Name.size≤60:=by
      unfold varB at hvb
      simp at hvb
      omega
     have g1:decide (s[k].Name.size≤maxLen)=true:=decide_eq_true (by unfold maxLen;omega)
     have g2:decide ((exT m s[k].Text).size≤maxLen)=true:=decide_eq_true (by unfold maxLen;omega)
     have g3:decide (m.length<maxLen)=true:=decide_eq_true (by unfold maxLen;omega)
     rw [if_pos k3,if_pos rfl]
     obtain ⟨x,x1,x2⟩:=ihm (k+1) (i+szR s[k]) (n+1) (putM m s[k].Name (exT m s[k].Text)) a (st++[⟨i,false,exT m s[k].Text⟩]) (by omega) (by omega) (by omega) (by omega) (by omega) (by simp;omega) (hI.set hnm.1 (by omega))
     refine ⟨x,qco ?_,x2⟩
     simp only [qct,q26i,q26z,EC.decL_encL,EC.isL_encL,EC.encL_length,q277,q41,q42,q46,q47,q48,q49,q4a,q4b,q4c,q4d,q43,q44,q45,q267,q269,e1,e0,if_true,Int.toNat_natCast,hd2,Bool.and_self,qik hlt,c1,c2,c3,Bool.false_eq_true,if_false,hex,nf,nx,Option.bind_some,g1,g2,g3,hcT,hcE,w3,w4,w5,e2]
     exact x1
    ·have c3:(s[k].Kind==3)=false:=by simpa using k3
     rw [if_neg k3]
     simp only [Bool.false_eq_true,if_false]
     refine ⟨.inl (false,q280 f rc e fs bd sz m a (st++[⟨i,false,noTx⟩])),qco ?_,rfl⟩
     simp only [qct,q26i,q26z,EC.decL_encL,EC.isL_encL,EC.encL_length,q277,q41,q42,q46,q47,q48,q49,q4a,q4b,q4c,q4d,q43,q44,q45,q267,q269,e1,e0,if_true,Int.toNat_natCast,hd2,Bool.and_self,qik hlt,c1,c2,c3,Bool.false_eq_true,if_false,nf,Option.bind_some,q280]
theorem q12a (hH:HdrOk fs) (hE:envB f rc):∀ (q:Nat) (s:List S50),szL s=q→s.length≤big→okL s→okvL s→q128 f rc e fs bd sz s:=by
 intro q
 induction q using Nat.strongRecOn with
 |_ q ihq =>
  intro s hq hl ho hv i n m a st h0 h1 h2 h3 h4 hI
  subst hq
  have hT:∀ r∈s,r.Kind=1→∀ na ac ns st,q12g f rc e fs bd sz na ac ns st (tOf r):=fun r hr hk na ac ns st=>by
   have hok:=((q27h r).1 (qpa ho hr)).1
   have hvt:=qpe (okvR hv hr).1 (by simpa using hk)
   have hin:=(qpg hvt).2
   refine q12h f rc e fs bd sz na ac ns st hH hE _ (tOf r) rfl hok hvt ?_
   unfold innerB at hin
   split at hin
   ·have:(tOf r).Tests.length=1:=by simpa using hin
    omega
   ·split at hin
    ·simp at hin;omega
    ·have:(tOf r).Tests.length=0:=by simpa using hin
     omega
  obtain ⟨x,x1,x2⟩:=q129 f rc e fs bd sz s hl ho hv hT (fun r hr=>by
   obtain ⟨_,⟨ht1,ht2⟩,⟨he1,he2⟩,_⟩:=(q27h r).1 (qpa ho hr)
   obtain ⟨_,hvt,hve⟩:=okvR hv hr
   exact ⟨ihq (szL r.Then) (qz5 hr) r.Then rfl ht1 ht2 hvt,ihq (szL r.Else) (qz4 hr) r.Else rfl he1 he2 hve⟩) s.length 0 i n m a st (by omega) h0 (by rw [List.drop_zero];exact h1) (by rw [List.drop_zero];exact h2) (by rw [List.drop_zero];exact h3) (by rw [List.drop_zero];exact h4) hI
  rw [List.drop_zero] at x2
  have x1:qcm i s s.length 0 f rc e fs bd sz a.length m st.length a st=some x:=x1
  refine qcl ?_
  simp only [qcx,q26z,EC.decL_encL,EC.isL_encL,EC.encL_length,if_true,x1,Option.bind_some]
  generalize exL f rc fs sz s i m a st=v at x2
  obtain ⟨vb,vm,va,vs⟩:=v
  rcases x with x|x
  ·simp only [Sum.elim_inl] at x2 ⊢
   injection x2 with y1 y2
   rw [y2,y1]
  ·simp only [Sum.elim_inr] at x2 ⊢
   injection x2 with y1 y2
   rw [y2]
   have y1:true=vb:=y1
   rw [←y1]
end
noncomputable def runS (s:List S50) (f:ByteArray) (rc:List S118) (e:ByteArray) (fs:List S55) (bd:List Int):List S62:=if (runF s f rc e fs bd).1≠0 then [] else (theRun s f rc fs bd).2.2.2
theorem q12e {s:List S50} {f:ByteArray} {rc:List S118} {bd:List Int} (h:MOk s f rc bd) (e:ByteArray) (fs:List S55) :
  qcc s f rc e fs bd 0 []=some (((runA s f rc e fs bd).length,runF s f rc e fs bd),(((runA s f rc e fs bd).length,runF s f rc e fs bd),(runA s f rc e fs bd,((runS s f rc e fs bd).length,runS s f rc e fs bd)))):=by
 have hv:=q11m s h.len h.ok
 obtain ⟨he1,he2⟩:=envF_s h e
 obtain ⟨hm1,hm2,hm3⟩:=msgF_s fs h.bl
 refine qce ?_
 simp only [qci,q26i,q26z,EC.decL_encL,EC.isL_encL,q267,q269,qg,if_true,hv,Option.bind_some,qf3,qf5,none_s]
 by_cases h1:(scriptF s).1=0
 ·have c1:((scriptF s).1 != 0)=false:=by simpa using h1
  simp only [c1,Bool.false_eq_true,if_false,he1,Option.bind_some]
  by_cases h2:(envF f rc e).1=0
  ·have c2:((envF f rc e).1 != 0)=false:=by simpa using h2
   simp only [c2,Bool.false_eq_true,if_false,hm1,Option.bind_some]
   by_cases h3:(msgF fs bd).1.2.1=0
   ·have c3:((msgF fs bd).1.2.1 != 0)=false:=by simpa using h3
    have hF:runF s f rc e fs bd=(0,0):=by unfold runF;rw [if_neg (by simp [h1]),if_neg (by simp [h2]),if_neg (by simp [h3])]
    obtain ⟨hvl,h100⟩:=val_ok h1
    have hx:=q12a f rc e fs bd (((msgF fs bd).1.1:Nat):Int) (hm2 h3) (he2 h2) _ s rfl h.len h.ok hvl 0 0 [] [] [] (by omega) (by omega) (by omega) (by simp;omega) (by simp;omega) Inv.nil
    have hx:qcj s 0 f rc e fs bd (((msgF fs bd).1.1:Nat):Int) 0 [] 0 [] []=some ((theRun s f rc fs bd).1,((theRun s f rc fs bd).1,q280 f rc e fs bd (((msgF fs bd).1.1:Nat):Int) (theRun s f rc fs bd).2.1 (theRun s f rc fs bd).2.2.1 (theRun s f rc fs bd).2.2.2)):=hx
    have hinv:=q113 f rc fs bd h1
    obtain ⟨_,hal,_⟩:=hinv
    simp only [List.length_nil,Nat.zero_add] at hal
    have hA:runA s f rc e fs bd=finA (theRun s f rc fs bd).2.2.1:=by unfold runA;rw [hF,if_neg (by simp)]
    have hS:runS s f rc e fs bd=(theRun s f rc fs bd).2.2.2:=by unfold runS;rw [hF,if_neg (by simp)]
    rw [hF,hA,hS]
    simp only [c3,Bool.false_eq_true,if_false,hx,Option.bind_some,q280]
    generalize (theRun s f rc fs bd).2.2.1=a at hal
    have hd:=q8x a (by unfold big;omega)
    simp only [hd,Option.bind_some]
    unfold finA
    cases hb:a.any fun x=>dB x.Kind with
    |true=>simp
    |false =>
     have g1:decide ((a.length+1+(a.length+1) / 4+192)*32≤281474976710656)=true:=decide_eq_true (by omega)
     have g2:decide (a.length+1≤9223372036854775807)=true:=decide_eq_true (by omega)
     simp only [Bool.not_false,if_true,List.all_cons,List.all_nil,List.length_cons,List.length_nil,Nat.zero_add,beq_self_eq_true,Bool.and_self,g1,g2,Bool.false_eq_true,if_false,List.length_append]
     rfl
   ·have c3:((msgF fs bd).1.2.1 != 0)=true:=by simpa using h3
    have hF:runF s f rc e fs bd=((msgF fs bd).1.2.1,-2):=by unfold runF;rw [if_neg (by simp [h1]),if_neg (by simp [h2]),if_pos h3]
    have hA:runA s f rc e fs bd=[]:=by unfold runA;rw [hF,if_pos h3]
    have hS:runS s f rc e fs bd=[]:=by unfold runS;rw [hF,if_pos h3]
    rw [hF,hA,hS]
    simp only [c3,if_true,List.length_nil]
  ·have c2:((envF f rc e).1 != 0)=true:=by simpa using h2
   have hF:runF s f rc e fs bd=((envF f rc e).1,-3):=by unfold runF;rw [if_neg (by simp [h1]),if_pos h2]
   have hA:runA s f rc e fs bd=[]:=by unfold runA;rw [hF,if_pos h2]
   have hS:runS s f rc e fs bd=[]:=by unfold runS;rw [hF,if_pos h2]
   rw [hF,hA,hS]
   simp only [c2,if_true,List.length_nil]
 ·have c1:((scriptF s).1 != 0)=true:=by simpa using h1
  have hF:runF s f rc e fs bd=scriptF s:=by unfold runF;rw [if_pos h1]
  have hA:runA s f rc e fs bd=[]:=by unfold runA;rw [hF,if_pos h1]
  have hS:runS s f rc e fs bd=[]:=by unfold runS;rw [hF,if_pos h1]
  rw [hF,hA,hS]
  simp only [c1,if_true,List.length_nil]
theorem qf0 {s:List S50} {f:ByteArray} {rc:List S118} {bd:List Int} (h:MOk s f rc bd) (e:ByteArray) (fs:List S55) :
  qey s f rc e fs bd=some (((runS s f rc e fs bd).length,((runA s f rc e fs bd).length,runF s f rc e fs bd)),(runS s f rc e fs bd,runA s f rc e fs bd)):=by
 have hn:=q12e h e fs
 refine qex ?_
 simp only [qez,q26i,q26z,EC.decL_encL,EC.isL_encL,qg,if_true,hn,Option.bind_some,qf3]
 by_cases hF:(runF s f rc e fs bd).1=0
 ·have c1:((runF s f rc e fs bd).1 != 0)=false:=by simpa using hF
  simp only [c1,Bool.false_eq_true,if_false]
 ·have c1:((runF s f rc e fs bd).1 != 0)=true:=by simpa using hF
  have hA:runA s f rc e fs bd=[]:=by unfold runA;rw [if_pos hF]
  have hS:runS s f rc e fs bd=[]:=by unfold runS;rw [if_pos hF]
  rw [hA,hS]
  simp only [c1,if_true,List.length_nil]
end Go.Proofs.YtokahibbkdbndaaGreatDoor
