/- The reference's pieces. -/
import Derived.Test.YtokahibbkdbndaaGreatDoorZ38
namespace Go.Proofs.YtokahibbkdbndaaGreatDoor
open Go.RowKit
abbrev PS:=List (BA×BA)
def ndB (p:BA×BA):Bool:=!dgtL p.1.data.toList
theorem qk0 {s:BA} (h:s.size≠0):(decide ((48:Int)≤((UInt8.toNat (Array.getD s.data 0 (0:UInt8)):Nat):Int))&&decide (((UInt8.toNat (Array.getD s.data 0 (0:UInt8)):Nat):Int)≤57))=dgtL s.data.toList:=by
 have hL:=q55 s
 have hlt:0<s.data.toList.length:=by omega
 have a0:Array.getD s.data 0 (0:UInt8)=s.data.toList[0]:=by
  unfold Array.getD;rw [dif_pos (show 0<s.data.size by show 0<s.size;omega)];rfl
 rw [a0]
 generalize s.data.toList=u at hlt
 cases u with
 |nil=>cases hlt
 |cons b l =>
  show (decide ((48:Int)≤((b.toNat:Nat):Int))&&decide (((b.toNat:Nat):Int)≤57))=(decide (48≤b.toNat)&&decide (b.toNat≤57))
  congr 1
  ·rw [Bool.eq_iff_iff,decide_eq_true_iff,decide_eq_true_iff];omega
  ·rw [Bool.eq_iff_iff,decide_eq_true_iff,decide_eq_true_iff];omega
theorem q84 (b:UInt8):IntKind.i64.wrap ((b.toNat:Nat):Int)=((b.toNat:Nat):Int):=by
 have:=b.toNat_lt
 exact q1m1 (by omega)
section
variable (a:List S45) (st:List S62) (sp:Bool)
def pcSt (pc:List BA) (ps acc:PS) (i:Int):(List BA×Unit×Unit×Nat×Nat×Int×Bool)×((List BA×List BA×List S45×List S62×Bool)×(Nat×Nat×Nat×Nat×Bool)×List BA×List BA×List BA×List BA×List S45×List S62) :=
 ((pc,((),((),(acc.length,(acc.length,(i,false)))))),((ps.map Prod.fst,(ps.map Prod.snd,(a,(st,sp)))),((0,(0,(0,(0,false)))),(acc.map Prod.fst,(acc.map Prod.snd,([],([],([],[]))))))))
theorem pc_l4 (pc:List BA) (ps:PS) (hl:ps.length≤1000000) (hk0:∀ p∈ps,p.1.size≠0):∀ (m k:Nat) (acc:PS),k+m=ps.length→acc.length≤k →
  q127 pc acc.length acc.length k (ps.map Prod.fst) (ps.map Prod.snd) a st sp 0 0 0 0 false (acc.map Prod.fst) (acc.map Prod.snd) [] [] [] []=some (pcSt a st sp pc ps (acc++(ps.drop k).filter ndB) ps.length):=by
 intro m
 induction m with
 |zero =>
  intro k acc hk ha
  have hk:k=ps.length:=by omega
  subst hk
  refine q129 ?_
  have c:decide ((ps.length:Int)<(ps.length:Int))=false:=decide_eq_false (by omega)
  rw [List.drop_length,List.filter_nil,List.append_nil]
  simp only [q12d,z2r,z2s,gL,dL,lN,eC,wI,p0,aL,dQ,q7r,qn6,x26q,x27q,x28q,isE_9,q51,q3l,q3z,List.length_map,c,x1q,x21q,x20q,pcSt]
 |succ m ih =>
  intro k acc hk ha
  have hlt:k<ps.length:=by omega
  have hl1:k<(ps.map Prod.fst).length:=by rw [List.length_map];omega
  have hl2:k<(ps.map Prod.snd).length:=by rw [List.length_map];omega
  have e1:decide ((k:Int)<(ps.length:Int))=true:=decide_eq_true (by omega)
  have e0:decide ((0:Int)≤(k:Int))=true:=decide_eq_true (by omega)
  have e2:IntKind.i64.wrap ((k:Int)+1)=((k+1:Nat):Int):=q1m2 hlt (by omega)
  have hd2:decide (k<ps.length)=true:=decide_eq_true hlt
  have q1:(ps.map Prod.fst)[k]=ps[k].1:=List.getElem_map ..
  have q2:(ps.map Prod.snd)[k]=ps[k].2:=List.getElem_map ..
  have hne:=hk0 ps[k] (List.getElem_mem hlt)
  have c0:decide (0<ps[k].1.size)=true:=decide_eq_true (by omega)
  have hdg:=qk0 hne
  have g1:decide ((acc.length+1+(acc.length+1) / 4+192)*16≤281474976710656)=true:=decide_eq_true (by omega)
  have g2:decide (acc.length+1≤9223372036854775807)=true:=decide_eq_true (by omega)
  refine q129 ?_
  rw [qag hlt,List.filter_cons]
  cases hb:dgtL ps[k].1.data.toList with
  |true =>
   rw [hb] at hdg
   rw [if_neg (by unfold ndB;rw [hb];decide)]
   simp only [q12d,z2r,z2s,gL,dL,lN,eC,wI,p0,aL,dQ,q7r,qn6,x26q,x27q,x28q,isE_9,q51,q3l,q3z,List.length_map,e1,e0,hd2,x20q,x3q,Int.toNat_zero,Int.le_refl,decide_true,x4q,qn9 hl1,q1,c0,q84,qq6,hdg,x0q,x15q,x1q,x21q,e2]
   exact ih (k+1) acc (by omega) (by omega)
  |false =>
   rw [hb] at hdg
   rw [if_pos (by unfold ndB;rw [hb];rfl)]
   have hi:=ih (k+1) (acc++[ps[k]]) (by omega) (by simp;omega)
   rw [x12q,List.append_assoc,List.map_append,List.map_append] at hi
   simp only [q12d,z2r,z2s,gL,dL,lN,eC,wI,p0,aL,dQ,q7r,qn6,all_1s,q1g2,x26q,x27q,x28q,isE_9,q51,List.length_map,e1,e0,hd2,x20q,x3q,Int.toNat_zero,Int.le_refl,decide_true,x4q,qn9 hl1,qn9 hl2,q1,q2,c0,q84,qq6,hdg,x0q,x11q,x17q,x24q,x9q,x8q,x13q,x19q,g1,g2,e2]
   exact hi
theorem pc_l10 (pc:List BA) (hp:pc.length≤1000) (ps:PS):∀ (m k:Nat) (acc:PS),k+m=pc.length→acc.length≤1000000+k →
  q120 pc acc.length acc.length k (ps.map Prod.fst) (ps.map Prod.snd) a st sp 0 0 0 0 false (acc.map Prod.fst) (acc.map Prod.snd) [] [] [] []=some (pcSt a st sp pc ps (acc++pieceP (pc.drop k) k) pc.length):=by
 intro m
 induction m with
 |zero =>
  intro k acc hk ha
  have hk:k=pc.length:=by omega
  subst hk
  refine q122 ?_
  have c:decide ((pc.length:Int)<(pc.length:Int))=false:=decide_eq_false (by omega)
  rw [List.drop_length,pieceP,List.append_nil]
  simp only [q126,z2t,gL,dL,lN,eC,wI,p0,aL,dQ,dM,q7r,qn6,x26q,x27q,x28q,isE_9,q51,q3l,q3z,c,x1q,x21q,x20q,pcSt]
 |succ m ih =>
  intro k acc hk ha
  have hlt:k<pc.length:=by omega
  have e1:decide ((k:Int)<(pc.length:Int))=true:=decide_eq_true (by omega)
  have e0:decide ((0:Int)≤(k:Int))=true:=decide_eq_true (by omega)
  have e2:IntKind.i64.wrap ((k:Int)+1)=((k+1:Nat):Int):=q1m2 hlt (by omega)
  have hd2:decide (k<pc.length)=true:=decide_eq_true hlt
  have hdg:=qaa (k+1) (by omega)
  have g1:decide ((acc.length+1+(acc.length+1) / 4+192)*16≤281474976710656)=true:=decide_eq_true (by omega)
  have g2:decide (acc.length+1≤9223372036854775807)=true:=decide_eq_true (by omega)
  have hi:=ih (k+1) (acc++[(itB ((k+1:Nat):Int),pc[k])]) (by omega) (by simp;omega)
  rw [x12q,List.append_assoc,List.map_append,List.map_append] at hi
  refine q122 ?_
  rw [qag hlt,pieceP]
  simp only [q126,z2t,gL,dL,lN,eC,wI,p0,aL,dQ,dM,q7r,qn6,all_1s,q1g2,x26q,x27q,x28q,isE_9,q51,e1,e0,hd2,e2,x20q,hdg,x0q,x3q,x4q,qn9 hlt,x17q,x24q,x9q,x8q,x13q,x19q,g1,g2]
  exact hi
theorem qxk (ps:PS) (hl:ps.length≤1000000) (hk0:∀ p∈ps,p.1.size≠0) (pc:List BA) (hp:pc.length≤1000) :
  q12e (ps.map Prod.fst) (ps.map Prod.snd) a st sp pc=some ((pcd ps pc).map Prod.fst,((pcd ps pc).map Prod.snd,(a,(st,sp)))):=by
 have h1:=pc_l4 a st sp pc ps hl hk0 ps.length 0 [] (by omega) (by simp)
 have hfl:(ps.filter ndB).length≤ps.length:=List.length_filter_le _ _
 have h2:=pc_l10 a st sp pc hp ps pc.length 0 (ps.filter ndB) (by omega) (by omega)
 rw [Int.natCast_zero,x10q,List.nil_append,List.map_nil,List.map_nil,x8q] at h1
 rw [Int.natCast_zero,x10q] at h2
 have e:pcd ps pc=ps.filter ndB++pieceP pc 0:=rfl
 rw [e]
 unfold pcSt at h1 h2
 refine q11z ?_
 simp only [q12f,gL,dL,qn6,qg,x26q,x27q,x20q,h1,h2,x0q]
end
end Go.Proofs.YtokahibbkdbndaaGreatDoor
namespace Go.Proofs.YtokahibbkdbndaaGreatDoor
open Go.RowKit
theorem qjp (k:Int) (p:BA):faultP k p=(0,0)∨(faultP k p).1≠0:=by
 unfold faultP
 split
 ·exact .inr (by decide)
 ·split
  ·exact .inr (by decide)
  ·split
   ·exact .inr (by show (11:Int)≠0;decide)
   ·exact .inl rfl
section
variable (f:BA) (rc:List S118) (e:BA) (fs:List S55) (bd:List Int) (sz:Int) (a:List S45) (st:List S62) (sp:Bool)
def rSt (ps:PS):List BA×List BA×List S45×List S62×Bool:=(ps.map Prod.fst,(ps.map Prod.snd,(a,(st,sp))))
theorem r_mat (t:S48) (ht:t.Text.size≤1000) (tl:List BA) (hl:tl.length≤1000000) (hv:∀ v∈tl,v.size≤4000) (n:Nat) (hn:n≤900000) (ps:PS) (mm:MM) (hI:RI n ps mm):∀ (m k:Nat),k+m=tl.length →
  ∃ ps',RI n ps' (matL t.Pattern t.Text mm (tl.drop k)).2∧∃ x,q17k tl.length k (ps.map Prod.fst) (ps.map Prod.snd) a st sp t.Kind t.Tests t.Name t.Pattern t.Text t.N 0 0 0 0 false tl [] [] [] []=some x ∧
   Sum.elim (fun r=>(r.1.1,r.2)) (fun r=>(false,r.2.1)) x=((matL t.Pattern t.Text mm (tl.drop k)).1,rSt a st sp ps'):=by
 intro m
 induction m with
 |zero =>
  intro k hk
  have hk:k=tl.length:=by omega
  subst hk
  have c:decide ((tl.length:Int)<(tl.length:Int))=false:=decide_eq_false (by omega)
  rw [List.drop_length]
  refine ⟨ps,hI,.inr (((),((),((),(tl.length,(((tl.length:Nat):Int),false))))),((ps.map Prod.fst,(ps.map Prod.snd,(a,(st,sp)))),((t.Kind,(t.Tests,(t.Name,(t.Pattern,(t.Text,t.N))))),((0,(0,(0,(0,false)))),(tl,([],([],([],[]))))))))
   ,q17m ?_,rfl⟩
  simp only [q17r,gL,dL,lN,wI,p0,q7r,qn6,x26q,x27q,x28q,q51,c,x1q,x21q,x20q]
 |succ m ih =>
  intro k hk
  have hlt:k<tl.length:=by omega
  have e1:decide ((k:Int)<(tl.length:Int))=true:=decide_eq_true (by omega)
  have e0:decide ((0:Int)≤(k:Int))=true:=decide_eq_true (by omega)
  have e2:IntKind.i64.wrap ((k:Int)+1)=((k+1:Nat):Int):=q1m2 hlt (by omega)
  have hd2:decide (k<tl.length)=true:=decide_eq_true hlt
  have hlen:(((qb5.encL tl).getD k []).length==1)=true:=by rw [EC.getD_lt _ _ hlt];rfl
  have hisP:isP [K1.str] 0 ((qb5.encL tl).getD k [])=true:=by rw [EC.getD_lt _ _ hlt];rfl
  have hs:=hv tl[k] (List.getElem_mem hlt)
  have hpf:=qvx t.Pattern t.Text (by omega)
  have hmt:=qtb t.Pattern t.Text tl[k] ht (by omega)
  obtain ⟨ps',i1,x,i2,i3⟩:=ih (k+1) (by omega)
  rw [qag hlt,matL]
  rcases qjp t.Pattern t.Text with h0|h0
  ·have hR:matchR t.Pattern t.Text tl[k]=(((matchedR t.Pattern (L t.Text) (L tl[k])).1.1,(matchedR t.Pattern (L t.Text) (L tl[k])).1.2,(0,0)),(matchedR t.Pattern (L t.Text) (L tl[k])).2):=by
    unfold matchR
    rw [if_neg (by rw [h0];simp),if_neg (by omega)]
   obtain ⟨_,m2,m3⟩:=qt9 t.Pattern t.Text tl[k]
   rw [hR] at m2 m3 ⊢
   rw [h0] at hpf
   have z0:((0:Int) != 0)=false:=rfl
   cases hb:(matchedR t.Pattern (L t.Text) (L tl[k])).1.1 with
   |false =>
    rw [if_neg (by rintro ⟨_,h⟩;cases h)]
    refine ⟨ps',i1,x,q17m ?_,i3⟩
    simp only [q17r,gL,dL,lN,wI,p0,q7r,qn6,x26q,x27q,x28q,q51,e1,e0,hd2,x20q,hpf,hmt,x0q,z0,x1q,x21q,x3q,x4q,hlen,hisP,qn9 hlt,hb,show (false==true)=false from rfl,e2]
    exact i2
   |true =>
    rw [if_pos ⟨rfl,rfl⟩]
    by_cases h3:t.Pattern=3
    ·have c3:(t.Pattern==3)=true:=by simpa using h3
     have hpc:=qxk a st sp ps (by have:=hI.all;omega) hI.key (matchedR t.Pattern (L t.Text) (L tl[k])).2 m2
     rw [if_pos h3]
     refine ⟨_,hI.pieces m3 m2,.inl ((true,()),rSt a st sp (pcd ps (matchedR t.Pattern (L t.Text) (L tl[k])).2)),q17m ?_,rfl⟩
     simp only [q17r,gL,dL,lN,wI,p0,q7r,qn6,x26q,x27q,x28q,q51,e1,e0,hd2,x20q,hpf,hmt,x0q,z0,x1q,x21q,x3q,x4q,hlen,hisP,qn9 hlt,hb,x19q,c3,hpc,rSt]
    ·have c3:(t.Pattern==3)=false:=by simpa using h3
     rw [if_neg h3]
     refine ⟨ps,hI,.inl ((true,()),rSt a st sp ps),q17m ?_,rfl⟩
     simp only [q17r,gL,dL,lN,wI,p0,q7r,qn6,x26q,x27q,x28q,q51,e1,e0,hd2,x20q,hpf,hmt,x0q,z0,x1q,x21q,x3q,x4q,hlen,hisP,qn9 hlt,hb,x19q,c3,rSt]
  ·have hR:matchR t.Pattern t.Text tl[k]=((false,0,faultP t.Pattern t.Text),[]):=by
    unfold matchR
    rw [if_pos (by intro h;rw [h] at h0;exact h0 rfl)]
   have z0:((faultP t.Pattern t.Text).1 != 0)=true:=by simpa using h0
   rw [hR,if_neg (by rintro ⟨_,h⟩;cases h)]
   refine ⟨ps',i1,x,q17m ?_,i3⟩
   simp only [q17r,gL,dL,lN,wI,p0,q7r,qn6,x26q,x27q,x28q,q51,e1,x20q,hpf,x0q,z0,e2]
   exact i2
theorem r_adr (t:S48) (hl:rc.length≤1000) (ps:PS):∀ (m k:Nat) (acc:List BA),k+m=rc.length→acc.length≤k →
  q17d acc.length k (ps.map Prod.fst) (ps.map Prod.snd) a st sp t.Kind t.Tests t.Name t.Pattern t.Text t.N f rc e fs bd 0 0 0 0 false acc [] [] [] []=some (((),((),((),((),((acc++(rc.drop k).map fun x=>x.Address).length,(((rc.length:Nat):Int),false)))))),((ps.map Prod.fst,(ps.map Prod.snd,(a,(st,sp)))),((t.Kind,(t.Tests,(t.Name,(t.Pattern,(t.Text,t.N))))),((f,(rc,(e,(fs,bd)))),((0,(0,(0,(0,false)))),(acc++(rc.drop k).map fun x=>x.Address,([],([],([],[]))))))))):=by
 intro m
 induction m with
 |zero =>
  intro k acc hk ha
  have hk:k=rc.length:=by omega
  subst hk
  have c:decide ((rc.length:Int)<(rc.length:Int))=false:=decide_eq_false (by omega)
  rw [List.drop_length,List.map_nil,List.append_nil]
  refine q17f ?_
  simp only [q17j,z2x,gL,dL,lN,eC,wI,p0,aL,dQ,q7r,qn6,x26q,x27q,x28q,q3l,q3z,qqm,q42,c,x1q,x21q,x20q]
 |succ m ih =>
  intro k acc hk ha
  have hlt:k<rc.length:=by omega
  have e1:decide ((k:Int)<(rc.length:Int))=true:=decide_eq_true (by omega)
  have e0:decide ((0:Int)≤(k:Int))=true:=decide_eq_true (by omega)
  have e2:IntKind.i64.wrap ((k:Int)+1)=((k+1:Nat):Int):=q1m2 hlt (by omega)
  have hd2:decide (k<rc.length)=true:=decide_eq_true hlt
  have g1:decide ((acc.length+1+(acc.length+1) / 4+192)*16≤281474976710656)=true:=decide_eq_true (by omega)
  have g2:decide (acc.length+1≤9223372036854775807)=true:=decide_eq_true (by omega)
  have hi:=ih (k+1) (acc++[rc[k].Address]) (by omega) (by simp;omega)
  rw [List.append_assoc] at hi
  rw [show (acc++[rc[k].Address]).length=acc.length+1 from by simp] at hi
  refine q17f ?_
  rw [qag hlt,List.map_cons]
  simp only [q17j,z2x,gL,dL,lN,eC,wI,p0,aL,dQ,q7r,qn6,all_1s,q1g2,x26q,x27q,x28q,qqm,q42,e1,e0,hd2,x20q,x3q,x4q,qn9 hlt,x17q,x24q,x9q,x8q,x13q,x19q,g1,g2,e2]
  exact hi
def rTestAt (t:S48):Prop:=∀ (n:Nat) (ps:PS) (mm:MM),n≤900000→RI n ps mm→∃ ps',RI n ps' (tsT f rc fs sz t mm).2 ∧
 q180 (ps.map Prod.fst) (ps.map Prod.snd) a st sp t.Kind t.Tests t.Name t.Pattern t.Text t.N f rc e fs bd sz=some ((tsT f rc fs sz t mm).1,rSt a st sp ps')
theorem r_all (t:S48) (n:Nat) (hn:n≤900000) (hl:t.Tests.length≤1000000000000000) (ih0:∀ x∈t.Tests,rTestAt f rc e fs bd sz a st sp x):∀ (m k:Nat) (ps:PS) (mm:MM),k+m=t.Tests.length→RI n ps mm →
  ∃ ps',RI n ps' (tsA f rc fs sz t.Kind (t.Tests.drop k) mm).2∧∃ x,q17s sz k (ps.map Prod.fst) (ps.map Prod.snd) a st sp t.Kind t.Tests t.Name t.Pattern t.Text t.N f rc e fs bd 0 0 0 0 false [] [] [] []=some x ∧
   Sum.elim (fun r=>(r.1.1,r.2)) (fun r=>(r.2.2.1.1==3,r.2.1)) x=((tsA f rc fs sz t.Kind (t.Tests.drop k) mm).1,rSt a st sp ps'):=by
 intro m
 induction m with
 |zero =>
  intro k ps mm hk hI
  have hk:k=t.Tests.length:=by omega
  subst hk
  have c:decide ((t.Tests.length:Int)<(t.Tests.length:Int))=false:=decide_eq_false (by omega)
  rw [List.drop_length,tsA]
  refine ⟨ps,hI,.inr ((sz,((),((),((),((),(((t.Tests.length:Nat):Int),false)))))),((ps.map Prod.fst,(ps.map Prod.snd,(a,(st,sp)))),((t.Kind,(t.Tests,(t.Name,(t.Pattern,(t.Text,t.N))))),((f,(rc,(e,(fs,bd)))),((0,(0,(0,(0,false)))),([],([],([],[]))))))))
   ,q17u ?_,rfl⟩
  simp only [q17z,z2w,gL,dL,lN,eC,wI,p0,uL,q7r,qn6,x26q,x27q,x28q,qqp,q4b,q4c,q4d,q4e,q4f,q4g,c,x1q,x21q,x20q]
 |succ m ih =>
  intro k ps mm hk hI
  have hlt:k<t.Tests.length:=by omega
  have e1:decide ((k:Int)<(t.Tests.length:Int))=true:=decide_eq_true (by omega)
  have e0:decide ((0:Int)≤(k:Int))=true:=decide_eq_true (by omega)
  have e2:IntKind.i64.wrap ((k:Int)+1)=((k+1:Nat):Int):=q1m2 hlt (by omega)
  have hd2:decide (k<t.Tests.length)=true:=decide_eq_true hlt
  obtain ⟨ps1,r1,r2⟩:=ih0 t.Tests[k] (List.getElem_mem hlt) n ps mm hn hI
  rw [qag hlt,tsA]
  by_cases hb:(tsT f rc fs sz t.Tests[k] mm).1=(t.Kind==4)
  ·have hb':((tsT f rc fs sz t.Tests[k] mm).1==(t.Kind==4))=true:=by simpa using hb
   rw [if_pos hb]
   refine ⟨ps1,r1,.inl (((tsT f rc fs sz t.Tests[k] mm).1,()),rSt a st sp ps1),q17u ?_,by rw [←hb];rfl⟩
   simp only [q17z,z2w,gL,dL,lN,eC,wI,p0,uL,q7r,qn6,x26q,x27q,x28q,qqp,q4b,q4c,q4d,q4e,q4f,q4g,e1,e0,hd2,x20q,x3q,x4q,qn9 hlt,r2,x0q,hb',rSt]
  ·have hb':((tsT f rc fs sz t.Tests[k] mm).1==(t.Kind==4))=false:=by simpa using hb
   rw [if_neg hb]
   obtain ⟨ps2,i1,x,i2,i3⟩:=ih (k+1) ps1 _ (by omega) r1
   refine ⟨ps2,i1,x,q17u ?_,i3⟩
   simp only [q17z,z2w,gL,dL,lN,eC,wI,p0,uL,q7r,qn6,x26q,x27q,x28q,qqp,q4b,q4c,q4d,q4e,q4f,q4g,e1,e0,hd2,x20q,x3q,x4q,qn9 hlt,r2,x0q,hb',x1q,x21q,rSt,e2]
   exact i2
end
theorem q1lh {fs:List S55} (h:HdrOk fs) (nm:BA):∀ v∈valsL fs nm,v.size≤4000:=by
 intro v hv
 unfold valsL at hv
 obtain ⟨x,hx,rfl⟩:=List.mem_map.1 hv
 exact (h.all x (List.mem_filter.1 hx).1).2
section
variable (f:BA) (rc:List S118) (e:BA) (fs:List S55) (bd:List Int) (sz:Int) (a:List S45) (st:List S62) (sp:Bool)
theorem q1a3 (hH:HdrOk fs) (hE:envB f rc):∀ (q:Nat) (t:S48),tzT t=q→okT t→okvT t→rTestAt f rc e fs bd sz a st sp t:=by
 intro q
 induction q using Nat.strongRecOn with
 |_ q ihq =>
  intro t hq ho hv n ps mm hn hI
  subst hq
  obtain ⟨hl,hol⟩:=(okT_eq t).1 ho
  obtain ⟨⟨k1,k9⟩,hinn⟩:=qvg hv
  obtain ⟨ht1,ht2⟩:=qvh hv
  have hz:=tzT_eq t
  have ihc:∀ x∈t.Tests,rTestAt f rc e fs bd sz a st sp x:=fun x hx=>ihq (tzT x) (by have:=tz_mem hx;omega) x rfl (qv7 hol hx) (qvf hv hx)
  have n0:∀ j:Int,t.Kind≠j→(t.Kind==j)=false:=fun j h=>by simpa using h
  have n1:∀ j:Int,t.Kind=j→(t.Kind==j)=true:=fun j h=>by simpa using h
  rw [tsT_eq]
  by_cases h2:t.Kind=2
  ·have hlt:0<t.Tests.length:=by
    unfold innerB at hinn
    rw [h2] at hinn
    simp at hinn
    omega
   have hd0:decide (0<t.Tests.length)=true:=decide_eq_true hlt
   obtain ⟨ps1,r1,r2⟩:=ihc _ (List.getElem_mem hlt) n ps mm hn hI
   have e2:∀ (ts:List S48) (hl:0<ts.length),tsH f rc fs sz ts mm=(!(tsT f rc fs sz ts[0] mm).1,(tsT f rc fs sz ts[0] mm).2):=by
    intro ts hl
    cases ts with
    |nil=>cases hl
    |cons x l=>rw [tsH];rfl
   rw [if_pos h2,e2 _ hlt]
   refine ⟨ps1,r1,q17c ?_⟩
   simp only [q181,z2y,gL,dL,eC,uL,q7r,qn6,qg,x26q,x27q,x28q,qqp,q4b,q4c,q4d,q4e,q4f,q4g,n1 2 h2,x20q,Int.toNat_zero,hd0,x4q,qn9 hlt,r2,x0q,rSt]
  rw [if_neg h2]
  by_cases h34:t.Kind=3∨t.Kind=4
  ·rw [if_pos h34]
   obtain ⟨ps1,r1,x,x1,x2⟩:=r_all f rc e fs bd sz a st sp t n hn (by unfold big at hl;omega) ihc t.Tests.length 0 ps mm (by omega) hI
   rw [x10q] at r1 x2
   rw [Int.natCast_zero] at x1
   refine ⟨ps1,r1,?_⟩
   rw [←x2]
   refine q17c ?_
   rcases h34 with h|h
   ·simp only [q181,z2y,gL,dL,eC,uL,q7r,qn6,qg,x26q,x27q,x28q,qqp,q4b,q4c,q4d,q4e,q4f,q4g,n0 2 h2,n1 3 h,show (true==false)=false from rfl,x1q,x21q,x20q,x1,x0q]
    rcases x with x|x <;> rfl
   ·simp only [q181,z2y,gL,dL,eC,uL,q7r,qn6,qg,x26q,x27q,x28q,qqp,q4b,q4c,q4d,q4e,q4f,q4g,n0 2 h2,n0 3 (by omega),n1 4 h,show (false==false)=true from rfl,x1q,x21q,x20q,x1,x0q]
    rcases x with x|x <;> rfl
  rw [if_neg h34]
  have h3:t.Kind≠3:=fun h=>h34 (.inl h)
  have h4:t.Kind≠4:=fun h=>h34 (.inr h)
  by_cases h5:t.Kind=5
  ·rw [if_pos h5]
   have hvs:=vals_s hH bd t.Name
   obtain ⟨ps1,r1,x,x1,x2⟩:=r_mat a st sp t (by omega) (valsL fs t.Name) (by have:=q1lg fs t.Name;have:=hH.len;omega) (q1lh hH t.Name) n hn ps mm hI _ 0 (by rw [x13q])
   rw [x10q] at r1 x2
   rw [Int.natCast_zero] at x1
   refine ⟨ps1,r1,?_⟩
   rw [←x2]
   refine q17c ?_
   simp only [q181,z2y,gL,dL,eC,uL,q7r,qn6,qg,x26q,x27q,x28q,qqp,q4b,q4c,q4d,q4e,q4f,q4g,n0 2 h2,n0 3 h3,n0 4 h4,n0 1 (by omega),n0 8 (by omega),n0 6 (by omega),n0 7 (by omega),n0 9 (by omega),show (false==false)=true from rfl,x1q,x21q,x20q,hvs,x1,x0q]
   rcases x with x|x <;> rfl
  rw [if_neg h5]
  by_cases h6:t.Kind=6
  ·rw [if_pos h6]
   obtain ⟨ps1,r1,x,x1,x2⟩:=r_mat a st sp t (by omega) [f] (by simp) (fun v hv=>by rw [List.mem_singleton.1 hv];have:=hE.1;omega) n hn ps mm hI _ 0 (by rw [x13q])
   rw [x10q] at r1 x2
   rw [Int.natCast_zero,List.length_singleton] at x1
   refine ⟨ps1,r1,?_⟩
   rw [←x2]
   refine q17c ?_
   have s1:([]:List (List C))++[[C.str f]]=qb5.encL [f]:=rfl
   simp only [q181,z2y,gL,dL,eC,uL,q7r,qn6,qg,s1,x26q,x27q,x28q,qqp,q4b,q4c,q4d,q4e,q4f,q4g,n0 2 h2,n0 3 h3,n0 4 h4,n0 1 (by omega),n0 8 (by omega),n1 6 h6,n0 9 (by omega),show (false==false)=true from rfl,x1q,x21q,x20q,x9q,x8q,x13q,x4q,x1,x0q]
   rcases x with x|x <;> rfl
  rw [if_neg h6]
  by_cases h7:t.Kind=7
  ·rw [if_pos h7]
   have hadr:=r_adr f rc e fs bd a st sp t (by have:=hE.2.1;omega) ps rc.length 0 [] (by omega) (by simp)
   rw [x10q,List.nil_append,Int.natCast_zero,x8q] at hadr
   obtain ⟨ps1,r1,x,x1,x2⟩:=r_mat a st sp t (by omega) (rc.map fun x=>x.Address) (by rw [List.length_map];have:=hE.2.1;omega) (fun v hv=>by
    obtain ⟨y,hy,rfl⟩:=List.mem_map.1 hv
    have:=hE.2.2 y hy;omega) n hn ps mm hI _ 0 (by rw [x13q])
   rw [x10q] at r1 x2
   rw [Int.natCast_zero] at x1
   refine ⟨ps1,r1,?_⟩
   rw [←x2]
   refine q17c ?_
   simp only [q181,z2y,gL,dL,eC,uL,q7r,qn6,qg,x26q,x27q,x28q,qqp,q4b,q4c,q4d,q4e,q4f,q4g,n0 2 h2,n0 3 h3,n0 4 h4,n0 1 (by omega),n0 8 (by omega),n0 6 h6,n1 7 h7,n0 9 (by omega),show (false==false)=true from rfl,x1q,x21q,x20q,hadr,x1,x0q]
   rcases x with x|x <;> rfl
  rw [if_neg h7]
  by_cases h8:t.Kind=8
  ·rw [if_pos h8]
   refine ⟨ps,hI,q17c ?_⟩
   simp only [q181,z2y,gL,dL,eC,uL,q7r,qn6,qg,x26q,x27q,x28q,qqp,q4b,q4c,q4d,q4e,q4f,q4g,n0 2 h2,n0 3 h3,n0 4 h4,n0 1 (by omega),n1 8 h8,show (false==false)=true from rfl,x1q,x21q,x20q,rSt]
  rw [if_neg h8]
  by_cases h9:t.Kind=9
  ·rw [if_pos h9]
   have hvs:=vals_s hH bd t.Name
   refine ⟨ps,hI,q17c ?_⟩
   simp only [q181,z2y,gL,dL,eC,uL,q7r,qn6,qg,x26q,x27q,x28q,qqp,q4b,q4c,q4d,q4e,q4f,q4g,n0 2 h2,n0 3 h3,n0 4 h4,n0 1 (by omega),n0 8 h8,n0 6 h6,n0 7 h7,n1 9 h9,show (false==false)=true from rfl,x1q,x21q,x20q,hvs,x0q,rSt]
  rw [if_neg h9]
  have h1:t.Kind=1:=by omega
  refine ⟨ps,hI,q17c ?_⟩
  simp only [q181,z2y,gL,dL,eC,uL,q7r,qn6,qg,x26q,x27q,x28q,qqp,q4b,q4c,q4d,q4e,q4f,q4g,n0 2 h2,n0 3 h3,n0 4 h4,n1 1 h1,show (false==false)=true from rfl,x1q,x21q,x20q,rSt]
end
end Go.Proofs.YtokahibbkdbndaaGreatDoor
