/- The reference's tests. -/
import Derived.Test.YtokahibbkdbndaaGreatDoorZ36
import Derived.Test.YtokahibbkdbndaaGreatDoorZ34
namespace Go.Proofs.YtokahibbkdbndaaGreatDoor
open Go.RowKit
theorem qjp (k:Int) (p:ByteArray):faultP k p=(0,0)∨(faultP k p).1≠0:=by
 unfold faultP
 split
 ·exact .inr (by decide)
 ·split
  ·exact .inr (by decide)
  ·split
   ·exact .inr (by show (11:Int)≠0;decide)
   ·exact .inl rfl
section
variable (f:ByteArray) (rc:List S118) (e:ByteArray) (fs:List S55) (bd:List Int) (sz:Int) (a:List S45) (st:List S62) (sp:Bool)
def rSt (ps:PS):List ByteArray×List ByteArray×List S45×List S62×Bool:=(ps.map Prod.fst,(ps.map Prod.snd,(a,(st,sp))))
theorem r_mat (t:S48) (ht:t.Text.size≤1000) (tl:List ByteArray) (hl:tl.length≤1000000) (hv:∀ v∈tl,v.size≤4000) (n:Nat) (hn:n≤900000) (ps:PS) (mm:MM) (hI:RI n ps mm):∀ (m k:Nat),k+m=tl.length →
  ∃ ps',RI n ps' (matL t.Pattern t.Text mm (tl.drop k)).2∧∃ x,q17k tl.length k (ps.map Prod.fst) (ps.map Prod.snd) a st sp t.Kind t.Tests t.Name t.Pattern t.Text t.N 0 0 0 0 false tl [] [] [] []=some x ∧
   Sum.elim (fun r=>(r.1.1,r.2)) (fun r=>(false,r.2.1)) x=((matL t.Pattern t.Text mm (tl.drop k)).1,rSt a st sp ps'):=by
 intro m
 induction m with
 |zero =>
  intro k hk
  have hk:k=tl.length:=by omega
  subst hk
  have c:decide ((tl.length:Int)<(tl.length:Int))=false:=decide_eq_false (by omega)
  rw [List.drop_length]
  refine ⟨ps,hI,.inr (((),((),((),(tl.length,(((tl.length:Nat):Int),false))))),((ps.map Prod.fst,(ps.map Prod.snd,(a,(st,sp)))),((t.Kind,(t.Tests,(t.Name,(t.Pattern,(t.Text,t.N))))),((0,(0,(0,(0,false)))),(tl,([],([],([],[]))))))))
   ,q17m ?_,rfl⟩
  simp only [q17r,gL,dL,lN,wI,p0,q7r,qn6,EC.decL_encL,EC.isL_encL,EC.encL_length,q51,c,Bool.false_eq_true,if_false,if_true]
 |succ m ih =>
  intro k hk
  have hlt:k<tl.length:=by omega
  have e1:decide ((k:Int)<(tl.length:Int))=true:=decide_eq_true (by omega)
  have e0:decide ((0:Int)≤(k:Int))=true:=decide_eq_true (by omega)
  have e2:IntKind.i64.wrap ((k:Int)+1)=((k+1:Nat):Int):=q1m2 hlt (by omega)
  have hd2:decide (k<tl.length)=true:=decide_eq_true hlt
  have hlen:(((qb5.encL tl).getD k []).length==1)=true:=by rw [EC.getD_lt _ _ hlt];rfl
  have hisP:isP [K1.str] 0 ((qb5.encL tl).getD k [])=true:=by rw [EC.getD_lt _ _ hlt];rfl
  have hs:=hv tl[k] (List.getElem_mem hlt)
  have hpf:=qvx t.Pattern t.Text (by omega)
  have hmt:=qtb t.Pattern t.Text tl[k] ht (by omega)
  obtain ⟨ps',i1,x,i2,i3⟩:=ih (k+1) (by omega)
  rw [qag hlt,matL]
  rcases qjp t.Pattern t.Text with h0|h0
  ·have hR:matchR t.Pattern t.Text tl[k]=(((matchedR t.Pattern (L t.Text) (L tl[k])).1.1,(matchedR t.Pattern (L t.Text) (L tl[k])).1.2,(0,0)),(matchedR t.Pattern (L t.Text) (L tl[k])).2):=by
    unfold matchR
    rw [if_neg (by rw [h0];simp),if_neg (by omega)]
   obtain ⟨_,m2,m3⟩:=qt9 t.Pattern t.Text tl[k]
   rw [hR] at m2 m3 ⊢
   rw [h0] at hpf
   have z0:((0:Int) != 0)=false:=rfl
   cases hb:(matchedR t.Pattern (L t.Text) (L tl[k])).1.1 with
   |false =>
    rw [if_neg (by rintro ⟨_,h⟩;cases h)]
    refine ⟨ps',i1,x,q17m ?_,i3⟩
    simp only [q17r,gL,dL,lN,wI,p0,q7r,qn6,EC.decL_encL,EC.isL_encL,EC.encL_length,q51,e1,e0,hd2,if_true,hpf,hmt,Option.bind_some,z0,Bool.false_eq_true,if_false,Int.toNat_natCast,Bool.and_self,hlen,hisP,qn9 hlt,hb,show (false==true)=false from rfl,e2]
    exact i2
   |true =>
    rw [if_pos ⟨rfl,rfl⟩]
    by_cases h3:t.Pattern=3
    ·have c3:(t.Pattern==3)=true:=by simpa using h3
     have hpc:=qxk a st sp ps (by have:=hI.all;omega) hI.key (matchedR t.Pattern (L t.Text) (L tl[k])).2 m2
     rw [if_pos h3]
     refine ⟨_,hI.pieces m3 m2,.inl ((true,()),rSt a st sp (pcd ps (matchedR t.Pattern (L t.Text) (L tl[k])).2)),q17m ?_,rfl⟩
     simp only [q17r,gL,dL,lN,wI,p0,q7r,qn6,EC.decL_encL,EC.isL_encL,EC.encL_length,q51,e1,e0,hd2,if_true,hpf,hmt,Option.bind_some,z0,Bool.false_eq_true,if_false,Int.toNat_natCast,Bool.and_self,hlen,hisP,qn9 hlt,hb,beq_self_eq_true,c3,hpc,rSt]
    ·have c3:(t.Pattern==3)=false:=by simpa using h3
     rw [if_neg h3]
     refine ⟨ps,hI,.inl ((true,()),rSt a st sp ps),q17m ?_,rfl⟩
     simp only [q17r,gL,dL,lN,wI,p0,q7r,qn6,EC.decL_encL,EC.isL_encL,EC.encL_length,q51,e1,e0,hd2,if_true,hpf,hmt,Option.bind_some,z0,Bool.false_eq_true,if_false,Int.toNat_natCast,Bool.and_self,hlen,hisP,qn9 hlt,hb,beq_self_eq_true,c3,rSt]
  ·have hR:matchR t.Pattern t.Text tl[k]=((false,0,faultP t.Pattern t.Text),[]):=by
    unfold matchR
    rw [if_pos (by intro h;rw [h] at h0;exact h0 rfl)]
   have z0:((faultP t.Pattern t.Text).1 != 0)=true:=by simpa using h0
   rw [hR,if_neg (by rintro ⟨_,h⟩;cases h)]
   refine ⟨ps',i1,x,q17m ?_,i3⟩
   simp only [q17r,gL,dL,lN,wI,p0,q7r,qn6,EC.decL_encL,EC.isL_encL,EC.encL_length,q51,e1,if_true,hpf,Option.bind_some,z0,e2]
   exact i2
theorem r_adr (t:S48) (hl:rc.length≤1000) (ps:PS):∀ (m k:Nat) (acc:List ByteArray),k+m=rc.length→acc.length≤k →
  q17d acc.length k (ps.map Prod.fst) (ps.map Prod.snd) a st sp t.Kind t.Tests t.Name t.Pattern t.Text t.N f rc e fs bd 0 0 0 0 false acc [] [] [] []=some (((),((),((),((),((acc++(rc.drop k).map fun x=>x.Address).length,(((rc.length:Nat):Int),false)))))),((ps.map Prod.fst,(ps.map Prod.snd,(a,(st,sp)))),((t.Kind,(t.Tests,(t.Name,(t.Pattern,(t.Text,t.N))))),((f,(rc,(e,(fs,bd)))),((0,(0,(0,(0,false)))),(acc++(rc.drop k).map fun x=>x.Address,([],([],([],[]))))))))):=by
 intro m
 induction m with
 |zero =>
  intro k acc hk ha
  have hk:k=rc.length:=by omega
  subst hk
  have c:decide ((rc.length:Int)<(rc.length:Int))=false:=decide_eq_false (by omega)
  rw [List.drop_length,List.map_nil,List.append_nil]
  refine q17f ?_
  simp only [q17j,z2p,gL,dL,lN,eC,wI,p0,aL,dQ,q7r,qn6,EC.decL_encL,EC.isL_encL,EC.encL_length,q3l,q3z,qqm,q42,c,Bool.false_eq_true,if_false,if_true]
 |succ m ih =>
  intro k acc hk ha
  have hlt:k<rc.length:=by omega
  have e1:decide ((k:Int)<(rc.length:Int))=true:=decide_eq_true (by omega)
  have e0:decide ((0:Int)≤(k:Int))=true:=decide_eq_true (by omega)
  have e2:IntKind.i64.wrap ((k:Int)+1)=((k+1:Nat):Int):=q1m2 hlt (by omega)
  have hd2:decide (k<rc.length)=true:=decide_eq_true hlt
  have g1:decide ((acc.length+1+(acc.length+1) / 4+192)*16≤281474976710656)=true:=decide_eq_true (by omega)
  have g2:decide (acc.length+1≤9223372036854775807)=true:=decide_eq_true (by omega)
  have hi:=ih (k+1) (acc++[rc[k].Address]) (by omega) (by simp;omega)
  rw [List.append_assoc] at hi
  rw [show (acc++[rc[k].Address]).length=acc.length+1 from by simp] at hi
  refine q17f ?_
  rw [qag hlt,List.map_cons]
  simp only [q17j,z2p,gL,dL,lN,eC,wI,p0,aL,dQ,q7r,qn6,all_1s,q1g2,EC.decL_encL,EC.isL_encL,EC.encL_length,qqm,q42,e1,e0,hd2,if_true,Int.toNat_natCast,Bool.and_self,qn9 hlt,List.all_cons,List.all_nil,List.length_cons,List.length_nil,Nat.zero_add,beq_self_eq_true,g1,g2,e2]
  exact hi
def rTestAt (t:S48):Prop:=∀ (n:Nat) (ps:PS) (mm:MM),n≤900000→RI n ps mm→∃ ps',RI n ps' (tsT f rc fs sz t mm).2 ∧
 q180 (ps.map Prod.fst) (ps.map Prod.snd) a st sp t.Kind t.Tests t.Name t.Pattern t.Text t.N f rc e fs bd sz=some ((tsT f rc fs sz t mm).1,rSt a st sp ps')
theorem r_all (t:S48) (n:Nat) (hn:n≤900000) (hl:t.Tests.length≤1000000000000000) (ih0:∀ x∈t.Tests,rTestAt f rc e fs bd sz a st sp x):∀ (m k:Nat) (ps:PS) (mm:MM),k+m=t.Tests.length→RI n ps mm →
  ∃ ps',RI n ps' (tsA f rc fs sz t.Kind (t.Tests.drop k) mm).2∧∃ x,q17s sz k (ps.map Prod.fst) (ps.map Prod.snd) a st sp t.Kind t.Tests t.Name t.Pattern t.Text t.N f rc e fs bd 0 0 0 0 false [] [] [] []=some x ∧
   Sum.elim (fun r=>(r.1.1,r.2)) (fun r=>(r.2.2.1.1==3,r.2.1)) x=((tsA f rc fs sz t.Kind (t.Tests.drop k) mm).1,rSt a st sp ps'):=by
 intro m
 induction m with
 |zero =>
  intro k ps mm hk hI
  have hk:k=t.Tests.length:=by omega
  subst hk
  have c:decide ((t.Tests.length:Int)<(t.Tests.length:Int))=false:=decide_eq_false (by omega)
  rw [List.drop_length,tsA]
  refine ⟨ps,hI,.inr ((sz,((),((),((),((),(((t.Tests.length:Nat):Int),false)))))),((ps.map Prod.fst,(ps.map Prod.snd,(a,(st,sp)))),((t.Kind,(t.Tests,(t.Name,(t.Pattern,(t.Text,t.N))))),((f,(rc,(e,(fs,bd)))),((0,(0,(0,(0,false)))),([],([],([],[]))))))))
   ,q17u ?_,rfl⟩
  simp only [q17z,z2o,gL,dL,lN,eC,wI,p0,uL,q7r,qn6,EC.decL_encL,EC.isL_encL,EC.encL_length,qqp,q4b,q4c,q4d,q4e,q4f,q4g,c,Bool.false_eq_true,if_false,if_true]
 |succ m ih =>
  intro k ps mm hk hI
  have hlt:k<t.Tests.length:=by omega
  have e1:decide ((k:Int)<(t.Tests.length:Int))=true:=decide_eq_true (by omega)
  have e0:decide ((0:Int)≤(k:Int))=true:=decide_eq_true (by omega)
  have e2:IntKind.i64.wrap ((k:Int)+1)=((k+1:Nat):Int):=q1m2 hlt (by omega)
  have hd2:decide (k<t.Tests.length)=true:=decide_eq_true hlt
  obtain ⟨ps1,r1,r2⟩:=ih0 t.Tests[k] (List.getElem_mem hlt) n ps mm hn hI
  rw [qag hlt,tsA]
  by_cases hb:(tsT f rc fs sz t.Tests[k] mm).1=(t.Kind==4)
  ·have hb':((tsT f rc fs sz t.Tests[k] mm).1==(t.Kind==4))=true:=by simpa using hb
   rw [if_pos hb]
   refine ⟨ps1,r1,.inl (((tsT f rc fs sz t.Tests[k] mm).1,()),rSt a st sp ps1),q17u ?_,by rw [←hb];rfl⟩
   simp only [q17z,z2o,gL,dL,lN,eC,wI,p0,uL,q7r,qn6,EC.decL_encL,EC.isL_encL,EC.encL_length,qqp,q4b,q4c,q4d,q4e,q4f,q4g,e1,e0,hd2,if_true,Int.toNat_natCast,Bool.and_self,qn9 hlt,r2,Option.bind_some,hb',rSt]
  ·have hb':((tsT f rc fs sz t.Tests[k] mm).1==(t.Kind==4))=false:=by simpa using hb
   rw [if_neg hb]
   obtain ⟨ps2,i1,x,i2,i3⟩:=ih (k+1) ps1 _ (by omega) r1
   refine ⟨ps2,i1,x,q17u ?_,i3⟩
   simp only [q17z,z2o,gL,dL,lN,eC,wI,p0,uL,q7r,qn6,EC.decL_encL,EC.isL_encL,EC.encL_length,qqp,q4b,q4c,q4d,q4e,q4f,q4g,e1,e0,hd2,if_true,Int.toNat_natCast,Bool.and_self,qn9 hlt,r2,Option.bind_some,hb',Bool.false_eq_true,if_false,rSt,e2]
   exact i2
end
end Go.Proofs.YtokahibbkdbndaaGreatDoor
namespace Go.Proofs.YtokahibbkdbndaaGreatDoor
open Go.RowKit
theorem q1lh {fs:List S55} (h:HdrOk fs) (nm:ByteArray):∀ v∈valsL fs nm,v.size≤4000:=by
 intro v hv
 unfold valsL at hv
 obtain ⟨x,hx,rfl⟩:=List.mem_map.1 hv
 exact (h.all x (List.mem_filter.1 hx).1).2
section
variable (f:ByteArray) (rc:List S118) (e:ByteArray) (fs:List S55) (bd:List Int) (sz:Int) (a:List S45) (st:List S62) (sp:Bool)
theorem q1a3 (hH:HdrOk fs) (hE:envB f rc):∀ (q:Nat) (t:S48),tzT t=q→okT t→okvT t→rTestAt f rc e fs bd sz a st sp t:=by
 intro q
 induction q using Nat.strongRecOn with
 |_ q ihq =>
  intro t hq ho hv n ps mm hn hI
  subst hq
  obtain ⟨hl,hol⟩:=(okT_eq t).1 ho
  obtain ⟨⟨k1,k9⟩,hinn⟩:=qvg hv
  obtain ⟨ht1,ht2⟩:=qvh hv
  have hz:=tzT_eq t
  have ihc:∀ x∈t.Tests,rTestAt f rc e fs bd sz a st sp x:=fun x hx=>ihq (tzT x) (by have:=tz_mem hx;omega) x rfl (qv7 hol hx) (qvf hv hx)
  have n0:∀ j:Int,t.Kind≠j→(t.Kind==j)=false:=fun j h=>by simpa using h
  have n1:∀ j:Int,t.Kind=j→(t.Kind==j)=true:=fun j h=>by simpa using h
  rw [tsT_eq]
  by_cases h2:t.Kind=2
  ·have hlt:0<t.Tests.length:=by
    unfold innerB at hinn
    rw [h2] at hinn
    simp at hinn
    omega
   have hd0:decide (0<t.Tests.length)=true:=decide_eq_true hlt
   obtain ⟨ps1,r1,r2⟩:=ihc _ (List.getElem_mem hlt) n ps mm hn hI
   have e2:∀ (ts:List S48) (hl:0<ts.length),tsH f rc fs sz ts mm=(!(tsT f rc fs sz ts[0] mm).1,(tsT f rc fs sz ts[0] mm).2):=by
    intro ts hl
    cases ts with
    |nil=>cases hl
    |cons x l=>rw [tsH];rfl
   rw [if_pos h2,e2 _ hlt]
   refine ⟨ps1,r1,q17c ?_⟩
   simp only [q181,z2q,gL,dL,eC,uL,q7r,qn6,qg,EC.decL_encL,EC.isL_encL,EC.encL_length,qqp,q4b,q4c,q4d,q4e,q4f,q4g,n1 2 h2,if_true,Int.toNat_zero,hd0,Bool.and_self,qn9 hlt,r2,Option.bind_some,rSt]
  rw [if_neg h2]
  by_cases h34:t.Kind=3∨t.Kind=4
  ·rw [if_pos h34]
   obtain ⟨ps1,r1,x,x1,x2⟩:=r_all f rc e fs bd sz a st sp t n hn (by unfold big at hl;omega) ihc t.Tests.length 0 ps mm (by omega) hI
   rw [List.drop_zero] at r1 x2
   rw [Int.natCast_zero] at x1
   refine ⟨ps1,r1,?_⟩
   rw [←x2]
   refine q17c ?_
   rcases h34 with h|h
   ·simp only [q181,z2q,gL,dL,eC,uL,q7r,qn6,qg,EC.decL_encL,EC.isL_encL,EC.encL_length,qqp,q4b,q4c,q4d,q4e,q4f,q4g,n0 2 h2,n1 3 h,show (true==false)=false from rfl,Bool.false_eq_true,if_false,if_true,x1,Option.bind_some]
    rcases x with x|x <;> rfl
   ·simp only [q181,z2q,gL,dL,eC,uL,q7r,qn6,qg,EC.decL_encL,EC.isL_encL,EC.encL_length,qqp,q4b,q4c,q4d,q4e,q4f,q4g,n0 2 h2,n0 3 (by omega),n1 4 h,show (false==false)=true from rfl,Bool.false_eq_true,if_false,if_true,x1,Option.bind_some]
    rcases x with x|x <;> rfl
  rw [if_neg h34]
  have h3:t.Kind≠3:=fun h=>h34 (.inl h)
  have h4:t.Kind≠4:=fun h=>h34 (.inr h)
  by_cases h5:t.Kind=5
  ·rw [if_pos h5]
   have hvs:=vals_s hH bd t.Name
   obtain ⟨ps1,r1,x,x1,x2⟩:=r_mat a st sp t (by omega) (valsL fs t.Name) (by have:=q1lg fs t.Name;have:=hH.len;omega) (q1lh hH t.Name) n hn ps mm hI _ 0 (by rw [Nat.zero_add])
   rw [List.drop_zero] at r1 x2
   rw [Int.natCast_zero] at x1
   refine ⟨ps1,r1,?_⟩
   rw [←x2]
   refine q17c ?_
   simp only [q181,z2q,gL,dL,eC,uL,q7r,qn6,qg,EC.decL_encL,EC.isL_encL,EC.encL_length,qqp,q4b,q4c,q4d,q4e,q4f,q4g,n0 2 h2,n0 3 h3,n0 4 h4,n0 1 (by omega),n0 8 (by omega),n0 6 (by omega),n0 7 (by omega),n0 9 (by omega),show (false==false)=true from rfl,Bool.false_eq_true,if_false,if_true,hvs,x1,Option.bind_some]
   rcases x with x|x <;> rfl
  rw [if_neg h5]
  by_cases h6:t.Kind=6
  ·rw [if_pos h6]
   obtain ⟨ps1,r1,x,x1,x2⟩:=r_mat a st sp t (by omega) [f] (by simp) (fun v hv=>by rw [List.mem_singleton.1 hv];have:=hE.1;omega) n hn ps mm hI _ 0 (by rw [Nat.zero_add])
   rw [List.drop_zero] at r1 x2
   rw [Int.natCast_zero,List.length_singleton] at x1
   refine ⟨ps1,r1,?_⟩
   rw [←x2]
   refine q17c ?_
   have s1:([]:List (List C))++[[C.str f]]=qb5.encL [f]:=rfl
   simp only [q181,z2q,gL,dL,eC,uL,q7r,qn6,qg,s1,EC.decL_encL,EC.isL_encL,EC.encL_length,qqp,q4b,q4c,q4d,q4e,q4f,q4g,n0 2 h2,n0 3 h3,n0 4 h4,n0 1 (by omega),n0 8 (by omega),n1 6 h6,n0 9 (by omega),show (false==false)=true from rfl,Bool.false_eq_true,if_false,if_true,List.length_cons,List.length_nil,Nat.zero_add,Bool.and_self,x1,Option.bind_some]
   rcases x with x|x <;> rfl
  rw [if_neg h6]
  by_cases h7:t.Kind=7
  ·rw [if_pos h7]
   have hadr:=r_adr f rc e fs bd a st sp t (by have:=hE.2.1;omega) ps rc.length 0 [] (by omega) (by simp)
   rw [List.drop_zero,List.nil_append,Int.natCast_zero,List.length_nil] at hadr
   obtain ⟨ps1,r1,x,x1,x2⟩:=r_mat a st sp t (by omega) (rc.map fun x=>x.Address) (by rw [List.length_map];have:=hE.2.1;omega) (fun v hv=>by
    obtain ⟨y,hy,rfl⟩:=List.mem_map.1 hv
    have:=hE.2.2 y hy;omega) n hn ps mm hI _ 0 (by rw [Nat.zero_add])
   rw [List.drop_zero] at r1 x2
   rw [Int.natCast_zero] at x1
   refine ⟨ps1,r1,?_⟩
   rw [←x2]
   refine q17c ?_
   simp only [q181,z2q,gL,dL,eC,uL,q7r,qn6,qg,EC.decL_encL,EC.isL_encL,EC.encL_length,qqp,q4b,q4c,q4d,q4e,q4f,q4g,n0 2 h2,n0 3 h3,n0 4 h4,n0 1 (by omega),n0 8 (by omega),n0 6 h6,n1 7 h7,n0 9 (by omega),show (false==false)=true from rfl,Bool.false_eq_true,if_false,if_true,hadr,x1,Option.bind_some]
   rcases x with x|x <;> rfl
  rw [if_neg h7]
  by_cases h8:t.Kind=8
  ·rw [if_pos h8]
   refine ⟨ps,hI,q17c ?_⟩
   simp only [q181,z2q,gL,dL,eC,uL,q7r,qn6,qg,EC.decL_encL,EC.isL_encL,EC.encL_length,qqp,q4b,q4c,q4d,q4e,q4f,q4g,n0 2 h2,n0 3 h3,n0 4 h4,n0 1 (by omega),n1 8 h8,show (false==false)=true from rfl,Bool.false_eq_true,if_false,if_true,rSt]
  rw [if_neg h8]
  by_cases h9:t.Kind=9
  ·rw [if_pos h9]
   have hvs:=vals_s hH bd t.Name
   refine ⟨ps,hI,q17c ?_⟩
   simp only [q181,z2q,gL,dL,eC,uL,q7r,qn6,qg,EC.decL_encL,EC.isL_encL,EC.encL_length,qqp,q4b,q4c,q4d,q4e,q4f,q4g,n0 2 h2,n0 3 h3,n0 4 h4,n0 1 (by omega),n0 8 h8,n0 6 h6,n0 7 h7,n1 9 h9,show (false==false)=true from rfl,Bool.false_eq_true,if_false,if_true,hvs,Option.bind_some,rSt]
  rw [if_neg h9]
  have h1:t.Kind=1:=by omega
  refine ⟨ps,hI,q17c ?_⟩
  simp only [q181,z2q,gL,dL,eC,uL,q7r,qn6,qg,EC.decL_encL,EC.isL_encL,EC.encL_length,qqp,q4b,q4c,q4d,q4e,q4f,q4g,n0 2 h2,n0 3 h3,n0 4 h4,n1 1 h1,show (false==false)=true from rfl,Bool.false_eq_true,if_false,if_true,rSt]
end
def clo (s:List UInt8) (j:Nat):Int:=if 0≤Lib.index (s.drop j) [125] then (j:Int)+Lib.index (s.drop j) [125] else -1
theorem qq5 (b:UInt8) (l:List UInt8):Lib.index (b::l) [125]=if b=125 then 0 else if Lib.index l [125]=-1 then -1 else Lib.index l [125]+1:=by
 conv=>lhs;unfold Lib.index
 rw [qvj]
 by_cases h:b=125
 ·subst h;rfl
 ·have h1:((125:UInt8)==b)=false:=by simpa using fun e:(125:UInt8)=b=>h e.symm
  rw [h1,if_neg h]
  simp
theorem q8x (s:List UInt8):clo s s.length=-1:=by
 unfold clo
 rw [List.drop_length]
 rfl
theorem q8y (s:List UInt8) (j:Nat) (h:j<s.length):clo s j=if s[j]=125 then (j:Int) else clo s (j+1):=by
 have hge:=Lib.index_ge (s.drop (j+1)) [125]
 unfold clo
 rw [List.drop_eq_getElem_cons h,qq5]
 by_cases h1:s[j]=125
 ·rw [if_pos h1,if_pos h1,if_pos (by decide)];omega
 ·rw [if_neg h1,if_neg h1]
  by_cases h2:Lib.index (s.drop (j+1)) [125]=-1
  ·rw [if_pos h2,if_neg (by decide),if_neg (by omega)]
  ·rw [if_neg h2,if_pos (by omega),if_pos (by omega)];omega
theorem q81 {s:ByteArray} {i:Nat} (h:i<s.data.toList.length):Array.getD s.data i (0:UInt8)=s.data.toList[i]:=by
 unfold Array.getD;rw [dif_pos (show i<s.data.size by rw [Array.length_toList] at h;exact h)];rfl
theorem q82 (b:UInt8) (n:Nat) (hn:n<256):(((b.toNat:Nat):Int)==((n:Nat):Int))=decide (b=UInt8.ofNat n):=by
 rw [Bool.eq_iff_iff,beq_iff_eq,decide_eq_true_iff]
 constructor
 ·intro h
  apply UInt8.toNat_inj.1
  rw [UInt8.toNat_ofNat']
  omega
 ·intro h
  rw [h,UInt8.toNat_ofNat']
  omega
section
variable (a:List S45) (st:List S62) (sp:Bool) (ps:PS) (s:ByteArray)
theorem x_l7 (hs:s.size≤1000) (out:ByteArray) (i:Nat):∀ (q k:Nat),k=i+1+q→k<s.size →
  q10q s out i (clo s.data.toList (k+1)) k (ps.map Prod.fst) (ps.map Prod.snd) a st sp=some ((s,((),(out,(((i:Nat):Int),(clo s.data.toList (i+2),(((i+1:Nat):Int),false)))))),(ps.map Prod.fst,(ps.map Prod.snd,(a,(st,sp))))):=by
 have hL:=q55 s
 have w0:i+1≤2000→IntKind.i64.wrap ((i:Int)+1)=((i+1:Nat):Int):=fun h=>by rw [q1m1 (by omega)];omega
 intro q
 induction q with
 |zero =>
  intro k hk hlt
  subst hk
  have c:decide ((((i+1+0:Nat)):Int)>((i+1:Nat):Int))=false:=decide_eq_false (by omega)
  refine q10s ?_
  simp only [q10w,gL,dL,wI,p0,q7r,qn6,EC.decL_encL,EC.isL_encL,w0 (by omega),c,Bool.false_eq_true,if_false,if_true]
 |succ q ih =>
  intro k hk hlt
  have c:decide (((k:Nat):Int)>((i+1:Nat):Int))=true:=decide_eq_true (by omega)
  have c0:decide ((0:Int)≤((k:Nat):Int))=true:=decide_eq_true (by omega)
  have c1:decide (k<s.size)=true:=decide_eq_true hlt
  have w1:IntKind.i64.wrap ((k:Int) - 1)=((k - 1:Nat):Int):=by rw [q1m1 (by omega)];omega
  have hb:=q81 (s:=s) (i:=k) (by omega)
  have h125:=q82 (s.data.toList[k]'(by omega)) 125 (by omega)
  have h125:((((s.data.toList[k]'(by omega)).toNat:Nat):Int)==125)=decide (s.data.toList[k]'(by omega)=125):=h125
  have hst:=q8y s.data.toList k (by omega)
  have hi:=ih (k - 1) (by omega) (by omega)
  rw [show k - 1+1=k from by omega,hst] at hi
  refine q10s ?_
  by_cases h:s.data.toList[k]'(by omega)=125
  ·rw [if_pos h] at hi
   rw [decide_eq_true h] at h125
   simp only [q10w,gL,dL,wI,p0,q7r,qn6,EC.decL_encL,EC.isL_encL,w0 (by omega),c,c0,c1,if_true,Int.toNat_natCast,Bool.and_self,hb,h125,w1]
   exact hi
  ·rw [if_neg h] at hi
   rw [decide_eq_false h] at h125
   simp only [q10w,gL,dL,wI,p0,q7r,qn6,EC.decL_encL,EC.isL_encL,w0 (by omega),c,c0,c1,if_true,Int.toNat_natCast,Bool.and_self,hb,h125,Bool.false_eq_true,if_false,w1]
   exact hi
theorem pre2 (c d:UInt8) (l:List UInt8):([36,123]:List UInt8).isPrefixOf (c::d::l)=((36==c)&&(123==d)):=by simp [List.isPrefixOf]
theorem x_l3 (hs:s.size≤1000) (hp:ps.length≤1000000) (hv:∀ p∈ps,p.2.size≤2000000):∀ (q i:Nat) (out:ByteArray) (m:Nat),s.size - i=q→i≤s.size→q≤m→out.size+q*2000000≤100000000000 →
  ∃ (o:ByteArray) (j:Int),q10j s out i (ps.map Prod.fst) (ps.map Prod.snd) a st sp=some ((s,((),(o,(j,false)))),(ps.map Prod.fst,(ps.map Prod.snd,(a,(st,sp)))))∧o.data.toList=out.data.toList++refX (vlook ps) m (s.data.toList.drop i):=by
 have hL:=q55 s
 intro q
 induction q using Nat.strongRecOn with
 |_ q ih =>
  intro i out m hq hi hm ho
  by_cases hlt:i<s.size
  ·have hlt':i<s.data.toList.length:=by omega
   have c0:decide (((i:Nat):Int)<((s.size:Nat):Int))=true:=decide_eq_true (by omega)
   have c1:decide ((0:Int)≤((i:Nat):Int))=true:=decide_eq_true (by omega)
   have c2:decide (i<s.size)=true:=decide_eq_true hlt
   have w1:IntKind.i64.wrap ((i:Int)+1)=((i+1:Nat):Int):=by rw [q1m1 (by omega)];omega
   have c3:decide ((0:Int)≤((i+1:Nat):Int))=true:=decide_eq_true (by omega)
   have c4:decide (((i+1:Nat):Int)≤((s.size:Nat):Int))=true:=decide_eq_true (by omega)
   have c5:decide (((i:Nat):Int)≤((i+1:Nat):Int))=true:=decide_eq_true (by omega)
   have hx:(s.extract i (i+1)).data.toList=[s.data.toList[i]]:=by
    rw [q54,List.take_succ_eq_append_getElem hlt',List.drop_append_of_le_length (by rw [List.length_take];omega),List.drop_of_length_le (by rw [List.length_take];omega)]
    rfl
   have hxs:(s.extract i (i+1)).size=1:=by rw [←q55,hx];rfl
   have c6:decide (((out.size+(s.extract i (i+1)).size:Nat):Int)>IntKind.max .i64)=false:=decide_eq_false (by
    rw [hxs]
    show ¬ (_>(9223372036854775807:Int))
    omega)
   have hos:(out++s.extract i (i+1)).size=out.size+1:=by rw [←q55,ba_app,List.length_append,q55,hx];rfl
   cases m with
   |zero=>omega
   |succ m =>
   obtain ⟨o,j,o1,o2⟩:=ih (q - 1) (by omega) (i+1) (out++s.extract i (i+1)) m (by omega) (by omega) (by omega) (by omega)
   rw [ba_app,hx,List.append_assoc] at o2
   have hdr:s.data.toList.drop i=s.data.toList[i]::s.data.toList.drop (i+1):=List.drop_eq_getElem_cons hlt'
   have hb:=q81 (s:=s) (i:=i) hlt'
   have h36:((((s.data.toList[i]).toNat:Nat):Int)==36)=decide (s.data.toList[i]=36):=q82 (s.data.toList[i]) 36 (by omega)
   by_cases hlt2:i+1<s.size
   ·have hlt2':i+1<s.data.toList.length:=by omega
    have d1:decide (((i+1:Nat):Int)<((s.size:Nat):Int))=true:=decide_eq_true (by omega)
    have d2:decide (i+1<s.size)=true:=decide_eq_true hlt2
    have hb2:=q81 (s:=s) (i:=i+1) hlt2'
    have h123:((((s.data.toList[i+1]).toNat:Nat):Int)==123)=decide (s.data.toList[i+1]=123):=q82 (s.data.toList[i+1]) 123 (by omega)
    have hdr2:s.data.toList.drop (i+1)=s.data.toList[i+1]::s.data.toList.drop (i+2):=List.drop_eq_getElem_cons hlt2'
    have hpre:([36,123]:List UInt8).isPrefixOf (s.data.toList[i]::s.data.toList.drop (i+1))=(decide (s.data.toList[i]=36)&&decide (s.data.toList[i+1]=123)):=by
     rw [hdr2,pre2]
     congr 1
     ·rw [Bool.eq_iff_iff,beq_iff_eq,decide_eq_true_iff];exact eq_comm
     ·rw [Bool.eq_iff_iff,beq_iff_eq,decide_eq_true_iff];exact eq_comm
    have htl:(s.data.toList.drop (i+1)).drop 1=s.data.toList.drop (i+2):=by rw [List.drop_drop]
    rw [hdr,refX,hpre,htl]
    by_cases g1:s.data.toList[i]=36
    ·rw [decide_eq_true g1] at h36 ⊢
     by_cases g2:s.data.toList[i+1]=123
     ·rw [decide_eq_true g2] at h123 ⊢
      have w2:IntKind.i64.wrap (((s.size:Nat):Int) - 1)=((s.size - 1:Nat):Int):=by rw [q1m1 (by omega)];omega
      have h7:=x_l7 a st sp ps s hs out i (s.size - 1 - (i+1)) (s.size - 1) (by omega) (by omega)
      rw [show s.size - 1+1=s.data.toList.length from by omega,q8x] at h7
      have hge:=Lib.index_ge (s.data.toList.drop (i+2)) [125]
      have hroom:=Lib.index_room (s.data.toList.drop (i+2)) [125]
      have hcut:(Lib.cut (s.data.toList.drop (i+2)) [125])=if 0≤Lib.index (s.data.toList.drop (i+2)) [125] then ((s.data.toList.drop (i+2)).take (Lib.index (s.data.toList.drop (i+2)) [125]).toNat,(s.data.toList.drop (i+2)).drop ((Lib.index (s.data.toList.drop (i+2)) [125]).toNat+1),true) else (s.data.toList.drop (i+2),[],false):=rfl
      by_cases hf:0≤Lib.index (s.data.toList.drop (i+2)) [125]
      ·rw [if_pos hf] at hcut
       have hcl:clo s.data.toList (i+2)=((i+2:Nat):Int)+Lib.index (s.data.toList.drop (i+2)) [125]:=by unfold clo;rw [if_pos hf]
       have hroom:=hroom hf
       rw [hcl] at h7
       generalize Lib.index (s.data.toList.drop (i+2)) [125]=ix at hf hcut h7 hroom
       obtain ⟨p,rfl⟩:∃ p:Nat,ix=((p:Nat):Int):=⟨ix.toNat,by omega⟩
       rw [Int.toNat_natCast] at hcut
       simp only [List.length_drop,List.length_cons,List.length_nil] at hroom
       rw [show ((i+2:Nat):Int)+((p:Nat):Int)=((i+2+p:Nat):Int) from by omega] at h7
       have f1:decide (((i+2+p:Nat):Int)<0)=false:=decide_eq_false (by omega)
       have f2:decide ((0:Int)≤((i+2+p:Nat):Int))=true:=decide_eq_true (by omega)
       have f3:decide (((i+2+p:Nat):Int)≤((s.size:Nat):Int))=true:=decide_eq_true (by omega)
       have w3:IntKind.i64.wrap ((i:Int)+2)=((i+2:Nat):Int):=by rw [q1m1 (by omega)];omega
       have f4:decide ((0:Int)≤((i+2:Nat):Int))=true:=decide_eq_true (by omega)
       have f5:decide (((i+2:Nat):Int)≤((i+2+p:Nat):Int))=true:=decide_eq_true (by omega)
       have w4:IntKind.i64.wrap (((i+2+p:Nat):Int)+1)=((i+2+p+1:Nat):Int):=by rw [q1m1 (by omega)];omega
       obtain ⟨v,v1,v2⟩:=q1lj a st sp ps hp (s.extract (i+2) (i+2+p))
       have hk:(s.extract (i+2) (i+2+p)).data.toList=(s.data.toList.drop (i+2)).take p:=by
        rw [q54,List.drop_take,show i+2+p - (i+2)=p from by omega]
       have hvs:=q1lp (ps:=ps) (s.extract (i+2) (i+2+p)).data.toList hv
       rw [←v2,q55] at hvs
       have f6:decide (((out.size+v.size:Nat):Int)>IntKind.max .i64)=false:=decide_eq_false (by
        show ¬ (_>(9223372036854775807:Int))
        omega)
       have hos2:(out++v).size=out.size+v.size:=by rw [←q55,ba_app,List.length_append,q55,q55]
       obtain ⟨o',j',p1,p2⟩:=ih (s.size - (i+2+p+1)) (by omega) (i+2+p+1) (out++v) m rfl (by omega) (by omega) (by omega)
       rw [ba_app,List.append_assoc,v2,hk] at p2
       rw [hcut,Bool.and_self,Bool.and_self,if_pos rfl]
       refine ⟨o',j',q10l ?_,?_⟩
       ·simp only [q10p,z2m,z2n,gL,dL,wI,p0,q7r,qn6,EC.decL_encL,EC.isL_encL,c0,c1,c2,w1,d1,d2,c3,if_true,Int.toNat_natCast,Bool.and_self,hb,hb2,h36,h123,beq_self_eq_true,w2,h7,Option.bind_some,f1,f2,f3,w3,f4,f5,v1,f6,w4,Bool.false_eq_true,if_false]
        exact p1
       ·rw [p2,List.drop_drop,show i+2+(p+1)=i+2+p+1 from by omega]
      ·rw [if_neg hf] at hcut
       have hcl:clo s.data.toList (i+2)=-1:=by unfold clo;rw [if_neg hf]
       rw [hcl] at h7
       have f1:decide ((-1:Int)<0)=true:=rfl
       rw [hcut,Bool.and_false,if_neg (by decide)]
       refine ⟨o,j,q10l ?_,o2⟩
       simp only [q10p,z2m,z2n,gL,dL,wI,p0,q7r,qn6,EC.decL_encL,EC.isL_encL,c0,c1,c2,w1,d1,d2,c3,c4,c5,c6,if_true,Int.toNat_natCast,Bool.and_self,hb,hb2,h36,h123,beq_self_eq_true,w2,h7,Option.bind_some,f1,Bool.false_eq_true,if_false]
       exact o1
     ·rw [decide_eq_false g2] at h123 ⊢
      rw [Bool.and_false,Bool.false_and,if_neg (by decide)]
      refine ⟨o,j,q10l ?_,o2⟩
      simp only [q10p,z2m,z2n,gL,dL,wI,p0,q7r,qn6,EC.decL_encL,EC.isL_encL,c0,c1,c2,w1,d1,d2,c3,c4,c5,c6,if_true,Int.toNat_natCast,Bool.and_self,hb,hb2,h36,h123,beq_self_eq_true,Bool.false_eq_true,if_false]
      exact o1
    ·rw [decide_eq_false g1] at h36 ⊢
     rw [Bool.false_and,Bool.false_and,if_neg (by decide)]
     refine ⟨o,j,q10l ?_,o2⟩
     simp only [q10p,z2m,z2n,gL,dL,wI,p0,q7r,qn6,EC.decL_encL,EC.isL_encL,c0,c1,c2,w1,d1,c3,c4,c5,c6,if_true,Int.toNat_natCast,Bool.and_self,hb,h36,beq_self_eq_true,show (false==true)=false from rfl,Bool.false_eq_true,if_false]
     exact o1
   ·have d1:decide (((i+1:Nat):Int)<((s.size:Nat):Int))=false:=decide_eq_false (by omega)
    have hnil:s.data.toList.drop (i+1)=[]:=List.drop_of_length_le (by omega)
    have hpre:([36,123]:List UInt8).isPrefixOf [s.data.toList[i]]=false:=by simp [List.isPrefixOf]
    rw [hdr,refX,hnil,hpre,Bool.false_and,if_neg (by decide)]
    rw [hnil] at o2
    refine ⟨o,j,q10l ?_,o2⟩
    simp only [q10p,z2m,z2n,gL,dL,wI,p0,q7r,qn6,EC.decL_encL,EC.isL_encL,c0,c1,c2,w1,d1,c3,c4,c5,c6,if_true,Int.toNat_natCast,Bool.and_self,show (false==true)=false from rfl,Bool.false_eq_true,if_false]
    exact o1
  ·have c0:decide (((i:Nat):Int)<((s.size:Nat):Int))=false:=decide_eq_false (by omega)
   have hnil:s.data.toList.drop i=[]:=List.drop_of_length_le (by omega)
   refine ⟨out,((i:Nat):Int),q10l ?_,?_⟩
   ·simp only [q10p,z2m,z2n,gL,dL,wI,p0,q7r,qn6,EC.decL_encL,EC.isL_encL,c0,Bool.false_eq_true,if_false,if_true]
   ·rw [hnil]
    cases m <;> rw [refX,List.append_nil]
theorem qj7 {n:Nat} {mm:MM} (hI:RI n ps mm) (hn:n≤900000) (hs:s.size≤1000):q10x (ps.map Prod.fst) (ps.map Prod.snd) a st sp s=some (exT mm s):=by
 obtain ⟨o,j,o1,o2⟩:=x_l3 a st sp ps s hs (by have:=hI.all;omega) hI.val s.size 0 noTx s.size (by omega) (by omega) (by omega) (by show 0+_≤_;omega)
 rw [List.drop_zero] at o2
 rw [Int.natCast_zero] at o1
 have ho:o.data.toList=refX (getM mm) s.size s.data.toList:=by
  rw [o2,q1an hI.vr];rfl
 have hol:=q55 o
 have hT:(exT mm s).data.toList=(refX (getM mm) s.size s.data.toList).take 4000:=by rw [qiy mm s s.size (Nat.le_refl _)]
 rw [←ho] at hT
 refine q10i ?_
 unfold noTx at o1
 simp only [q10y,gL,dL,q7r,qn6,EC.decL_encL,EC.isL_encL,if_true,o1,Option.bind_some]
 by_cases h:o.size>4000
 ·have c:decide (((o.size:Nat):Int)>4000)=true:=decide_eq_true (by omega)
  have c1:decide ((0:Int)≤4000)=true:=rfl
  have c2:decide ((4000:Int)≤((o.size:Nat):Int))=true:=decide_eq_true (by omega)
  simp only [c,c1,c2,if_true,Bool.and_self]
  congr 1
  apply ba_eq
  rw [hT,show (Int.toNat 4000)=4000 from rfl,q54,List.drop_zero]
 ·have c:decide (((o.size:Nat):Int)>4000)=false:=decide_eq_false (by omega)
  simp only [c,Bool.false_eq_true,if_false]
  congr 1
  apply ba_eq
  rw [hT,List.take_of_length_le (by omega)]
end
theorem q1mt (k:Int):q1nd k=some (dB k):=by
 refine q1nc ?_
 simp only [q1ne,q7r,dB]
 cases (k != 6) <;> rfl
end Go.Proofs.YtokahibbkdbndaaGreatDoor
