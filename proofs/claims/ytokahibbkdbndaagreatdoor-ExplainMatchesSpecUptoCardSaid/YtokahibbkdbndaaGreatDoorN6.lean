/- The reference's Expanded is exT. -/
import Derived.Test.YtokahibbkdbndaaGreatDoorZ39
namespace Go.Proofs.YtokahibbkdbndaaGreatDoor
open Go.RowKit
def clo (s:List UInt8) (j:Nat):Int:=if 0≤Lib.index (s.drop j) [125] then (j:Int)+Lib.index (s.drop j) [125] else -1
theorem qq5 (b:UInt8) (l:List UInt8):Lib.index (b::l) [125]=if b=125 then 0 else if Lib.index l [125]=-1 then -1 else Lib.index l [125]+1:=by
 conv=>lhs;unfold Lib.index
 rw [qvj]
 by_cases h:b=125
 ·subst h;rfl
 ·have h1:((125:UInt8)==b)=false:=by simpa using fun e:(125:UInt8)=b=>h e.symm
  rw [h1,if_neg h]
  simp
theorem q8x (s:List UInt8):clo s s.length=-1:=by
 unfold clo
 rw [List.drop_length]
 rfl
theorem q8y (s:List UInt8) (j:Nat) (h:j<s.length):clo s j=if s[j]=125 then (j:Int) else clo s (j+1):=by
 have hge:=Lib.index_ge (s.drop (j+1)) [125]
 unfold clo
 rw [List.drop_eq_getElem_cons h,qq5]
 by_cases h1:s[j]=125
 ·rw [if_pos h1,if_pos h1,if_pos (by decide)];omega
 ·rw [if_neg h1,if_neg h1]
  by_cases h2:Lib.index (s.drop (j+1)) [125]=-1
  ·rw [if_pos h2,if_neg (by decide),if_neg (by omega)]
  ·rw [if_neg h2,if_pos (by omega),if_pos (by omega)];omega
theorem q81 {s:BA} {i:Nat} (h:i<s.data.toList.length):Array.getD s.data i (0:UInt8)=s.data.toList[i]:=by
 unfold Array.getD;rw [dif_pos (show i<s.data.size by rw [Array.length_toList] at h;exact h)];rfl
theorem q82 (b:UInt8) (n:Nat) (hn:n<256):(((b.toNat:Nat):Int)==((n:Nat):Int))=decide (b=UInt8.ofNat n):=by
 rw [Bool.eq_iff_iff,beq_iff_eq,decide_eq_true_iff]
 constructor
 ·intro h
  apply UInt8.toNat_inj.1
  rw [UInt8.toNat_ofNat']
  omega
 ·intro h
  rw [h,UInt8.toNat_ofNat']
  omega
section
variable (a:List S45) (st:List S62) (sp:Bool) (ps:PS) (s:BA)
theorem x_l7 (hs:s.size≤1000) (out:BA) (i:Nat):∀ (q k:Nat),k=i+1+q→k<s.size →
  q10q s out i (clo s.data.toList (k+1)) k (ps.map Prod.fst) (ps.map Prod.snd) a st sp=some ((s,((),(out,(((i:Nat):Int),(clo s.data.toList (i+2),(((i+1:Nat):Int),false)))))),(ps.map Prod.fst,(ps.map Prod.snd,(a,(st,sp))))):=by
 have hL:=q55 s
 have w0:i+1≤2000→IntKind.i64.wrap ((i:Int)+1)=((i+1:Nat):Int):=fun h=>by rw [q1m1 (by omega)];omega
 intro q
 induction q with
 |zero =>
  intro k hk hlt
  subst hk
  have c:decide ((((i+1+0:Nat)):Int)>((i+1:Nat):Int))=false:=decide_eq_false (by omega)
  refine q10s ?_
  simp only [q10w,gL,dL,wI,p0,q7r,qn6,x26q,x27q,w0 (by omega),c,x1q,x21q,x20q]
 |succ q ih =>
  intro k hk hlt
  have c:decide (((k:Nat):Int)>((i+1:Nat):Int))=true:=decide_eq_true (by omega)
  have c0:decide ((0:Int)≤((k:Nat):Int))=true:=decide_eq_true (by omega)
  have c1:decide (k<s.size)=true:=decide_eq_true hlt
  have w1:IntKind.i64.wrap ((k:Int) - 1)=((k - 1:Nat):Int):=by rw [q1m1 (by omega)];omega
  have hb:=q81 (s:=s) (i:=k) (by omega)
  have h125:=q82 (s.data.toList[k]'(by omega)) 125 (by omega)
  have h125:((((s.data.toList[k]'(by omega)).toNat:Nat):Int)==125)=decide (s.data.toList[k]'(by omega)=125):=h125
  have hst:=q8y s.data.toList k (by omega)
  have hi:=ih (k - 1) (by omega) (by omega)
  rw [show k - 1+1=k from by omega,hst] at hi
  refine q10s ?_
  by_cases h:s.data.toList[k]'(by omega)=125
  ·rw [if_pos h] at hi
   rw [decide_eq_true h] at h125
   simp only [q10w,gL,dL,wI,p0,q7r,qn6,x26q,x27q,w0 (by omega),c,c0,c1,x20q,x3q,x4q,hb,h125,w1]
   exact hi
  ·rw [if_neg h] at hi
   rw [decide_eq_false h] at h125
   simp only [q10w,gL,dL,wI,p0,q7r,qn6,x26q,x27q,w0 (by omega),c,c0,c1,x20q,x3q,x4q,hb,h125,x1q,x21q,w1]
   exact hi
theorem pre2 (c d:UInt8) (l:List UInt8):([36,123]:List UInt8).isPrefixOf (c::d::l)=((36==c)&&(123==d)):=by simp [List.isPrefixOf]
theorem x_l3 (hs:s.size≤1000) (hp:ps.length≤1000000) (hv:∀ p∈ps,p.2.size≤2000000):∀ (q i:Nat) (out:BA) (m:Nat),s.size - i=q→i≤s.size→q≤m→out.size+q*2000000≤100000000000 →
  ∃ (o:BA) (j:Int),q10j s out i (ps.map Prod.fst) (ps.map Prod.snd) a st sp=some ((s,((),(o,(j,false)))),(ps.map Prod.fst,(ps.map Prod.snd,(a,(st,sp)))))∧o.data.toList=out.data.toList++refX (vlook ps) m (s.data.toList.drop i):=by
 have hL:=q55 s
 intro q
 induction q using Nat.strongRecOn with
 |_ q ih =>
  intro i out m hq hi hm ho
  by_cases hlt:i<s.size
  ·have hlt':i<s.data.toList.length:=by omega
   have c0:decide (((i:Nat):Int)<((s.size:Nat):Int))=true:=decide_eq_true (by omega)
   have c1:decide ((0:Int)≤((i:Nat):Int))=true:=decide_eq_true (by omega)
   have c2:decide (i<s.size)=true:=decide_eq_true hlt
   have w1:IntKind.i64.wrap ((i:Int)+1)=((i+1:Nat):Int):=by rw [q1m1 (by omega)];omega
   have c3:decide ((0:Int)≤((i+1:Nat):Int))=true:=decide_eq_true (by omega)
   have c4:decide (((i+1:Nat):Int)≤((s.size:Nat):Int))=true:=decide_eq_true (by omega)
   have c5:decide (((i:Nat):Int)≤((i+1:Nat):Int))=true:=decide_eq_true (by omega)
   have hx:(s.extract i (i+1)).data.toList=[s.data.toList[i]]:=by
    rw [q54,List.take_succ_eq_append_getElem hlt',List.drop_append_of_le_length (by rw [List.length_take];omega),List.drop_of_length_le (by rw [List.length_take];omega)]
    rfl
   have hxs:(s.extract i (i+1)).size=1:=by rw [←q55,hx];rfl
   have c6:decide (((out.size+(s.extract i (i+1)).size:Nat):Int)>IntKind.max .i64)=false:=decide_eq_false (by
    rw [hxs]
    show ¬ (_>(9223372036854775807:Int))
    omega)
   have hos:(out++s.extract i (i+1)).size=out.size+1:=by rw [←q55,ba_app,x12q,q55,hx];rfl
   cases m with
   |zero=>omega
   |succ m =>
   obtain ⟨o,j,o1,o2⟩:=ih (q - 1) (by omega) (i+1) (out++s.extract i (i+1)) m (by omega) (by omega) (by omega) (by omega)
   rw [ba_app,hx,List.append_assoc] at o2
   have hdr:s.data.toList.drop i=s.data.toList[i]::s.data.toList.drop (i+1):=List.drop_eq_getElem_cons hlt'
   have hb:=q81 (s:=s) (i:=i) hlt'
   have h36:((((s.data.toList[i]).toNat:Nat):Int)==36)=decide (s.data.toList[i]=36):=q82 (s.data.toList[i]) 36 (by omega)
   by_cases hlt2:i+1<s.size
   ·have hlt2':i+1<s.data.toList.length:=by omega
    have d1:decide (((i+1:Nat):Int)<((s.size:Nat):Int))=true:=decide_eq_true (by omega)
    have d2:decide (i+1<s.size)=true:=decide_eq_true hlt2
    have hb2:=q81 (s:=s) (i:=i+1) hlt2'
    have h123:((((s.data.toList[i+1]).toNat:Nat):Int)==123)=decide (s.data.toList[i+1]=123):=q82 (s.data.toList[i+1]) 123 (by omega)
    have hdr2:s.data.toList.drop (i+1)=s.data.toList[i+1]::s.data.toList.drop (i+2):=List.drop_eq_getElem_cons hlt2'
    have hpre:([36,123]:List UInt8).isPrefixOf (s.data.toList[i]::s.data.toList.drop (i+1))=(decide (s.data.toList[i]=36)&&decide (s.data.toList[i+1]=123)):=by
     rw [hdr2,pre2]
     congr 1
     ·rw [Bool.eq_iff_iff,beq_iff_eq,decide_eq_true_iff];exact eq_comm
     ·rw [Bool.eq_iff_iff,beq_iff_eq,decide_eq_true_iff];exact eq_comm
    have htl:(s.data.toList.drop (i+1)).drop 1=s.data.toList.drop (i+2):=by rw [List.drop_drop]
    rw [hdr,refX,hpre,htl]
    by_cases g1:s.data.toList[i]=36
    ·rw [decide_eq_true g1] at h36 ⊢
     by_cases g2:s.data.toList[i+1]=123
     ·rw [decide_eq_true g2] at h123 ⊢
      have w2:IntKind.i64.wrap (((s.size:Nat):Int) - 1)=((s.size - 1:Nat):Int):=by rw [q1m1 (by omega)];omega
      have h7:=x_l7 a st sp ps s hs out i (s.size - 1 - (i+1)) (s.size - 1) (by omega) (by omega)
      rw [show s.size - 1+1=s.data.toList.length from by omega,q8x] at h7
      have hge:=Lib.index_ge (s.data.toList.drop (i+2)) [125]
      have hroom:=Lib.index_room (s.data.toList.drop (i+2)) [125]
      have hcut:(Lib.cut (s.data.toList.drop (i+2)) [125])=if 0≤Lib.index (s.data.toList.drop (i+2)) [125] then ((s.data.toList.drop (i+2)).take (Lib.index (s.data.toList.drop (i+2)) [125]).toNat,(s.data.toList.drop (i+2)).drop ((Lib.index (s.data.toList.drop (i+2)) [125]).toNat+1),true) else (s.data.toList.drop (i+2),[],false):=rfl
      by_cases hf:0≤Lib.index (s.data.toList.drop (i+2)) [125]
      ·rw [if_pos hf] at hcut
       have hcl:clo s.data.toList (i+2)=((i+2:Nat):Int)+Lib.index (s.data.toList.drop (i+2)) [125]:=by unfold clo;rw [if_pos hf]
       have hroom:=hroom hf
       rw [hcl] at h7
       generalize Lib.index (s.data.toList.drop (i+2)) [125]=ix at hf hcut h7 hroom
       obtain ⟨p,rfl⟩:∃ p:Nat,ix=((p:Nat):Int):=⟨ix.toNat,by omega⟩
       rw [x3q] at hcut
       simp only [List.length_drop,x9q,x8q] at hroom
       rw [show ((i+2:Nat):Int)+((p:Nat):Int)=((i+2+p:Nat):Int) from by omega] at h7
       have f1:decide (((i+2+p:Nat):Int)<0)=false:=decide_eq_false (by omega)
       have f2:decide ((0:Int)≤((i+2+p:Nat):Int))=true:=decide_eq_true (by omega)
       have f3:decide (((i+2+p:Nat):Int)≤((s.size:Nat):Int))=true:=decide_eq_true (by omega)
       have w3:IntKind.i64.wrap ((i:Int)+2)=((i+2:Nat):Int):=by rw [q1m1 (by omega)];omega
       have f4:decide ((0:Int)≤((i+2:Nat):Int))=true:=decide_eq_true (by omega)
       have f5:decide (((i+2:Nat):Int)≤((i+2+p:Nat):Int))=true:=decide_eq_true (by omega)
       have w4:IntKind.i64.wrap (((i+2+p:Nat):Int)+1)=((i+2+p+1:Nat):Int):=by rw [q1m1 (by omega)];omega
       obtain ⟨v,v1,v2⟩:=q1lj a st sp ps hp (s.extract (i+2) (i+2+p))
       have hk:(s.extract (i+2) (i+2+p)).data.toList=(s.data.toList.drop (i+2)).take p:=by
        rw [q54,List.drop_take,show i+2+p - (i+2)=p from by omega]
       have hvs:=q1lp (ps:=ps) (s.extract (i+2) (i+2+p)).data.toList hv
       rw [←v2,q55] at hvs
       have f6:decide (((out.size+v.size:Nat):Int)>IntKind.max .i64)=false:=decide_eq_false (by
        show ¬ (_>(9223372036854775807:Int))
        omega)
       have hos2:(out++v).size=out.size+v.size:=by rw [←q55,ba_app,x12q,q55,q55]
       obtain ⟨o',j',p1,p2⟩:=ih (s.size - (i+2+p+1)) (by omega) (i+2+p+1) (out++v) m rfl (by omega) (by omega) (by omega)
       rw [ba_app,List.append_assoc,v2,hk] at p2
       rw [hcut,x4q,x4q,if_pos rfl]
       refine ⟨o',j',q10l ?_,?_⟩
       ·simp only [q10p,z2u,z2v,gL,dL,wI,p0,q7r,qn6,x26q,x27q,c0,c1,c2,w1,d1,d2,c3,x20q,x3q,x4q,hb,hb2,h36,h123,x19q,w2,h7,x0q,f1,f2,f3,w3,f4,f5,v1,f6,w4,x1q,x21q]
        exact p1
       ·rw [p2,List.drop_drop,show i+2+(p+1)=i+2+p+1 from by omega]
      ·rw [if_neg hf] at hcut
       have hcl:clo s.data.toList (i+2)=-1:=by unfold clo;rw [if_neg hf]
       rw [hcl] at h7
       have f1:decide ((-1:Int)<0)=true:=rfl
       rw [hcut,Bool.and_false,if_neg (by decide)]
       refine ⟨o,j,q10l ?_,o2⟩
       simp only [q10p,z2u,z2v,gL,dL,wI,p0,q7r,qn6,x26q,x27q,c0,c1,c2,w1,d1,d2,c3,c4,c5,c6,x20q,x3q,x4q,hb,hb2,h36,h123,x19q,w2,h7,x0q,f1,x1q,x21q]
       exact o1
     ·rw [decide_eq_false g2] at h123 ⊢
      rw [Bool.and_false,Bool.false_and,if_neg (by decide)]
      refine ⟨o,j,q10l ?_,o2⟩
      simp only [q10p,z2u,z2v,gL,dL,wI,p0,q7r,qn6,x26q,x27q,c0,c1,c2,w1,d1,d2,c3,c4,c5,c6,x20q,x3q,x4q,hb,hb2,h36,h123,x19q,x1q,x21q]
      exact o1
    ·rw [decide_eq_false g1] at h36 ⊢
     rw [Bool.false_and,Bool.false_and,if_neg (by decide)]
     refine ⟨o,j,q10l ?_,o2⟩
     simp only [q10p,z2u,z2v,gL,dL,wI,p0,q7r,qn6,x26q,x27q,c0,c1,c2,w1,d1,c3,c4,c5,c6,x20q,x3q,x4q,hb,h36,x19q,show (false==true)=false from rfl,x1q,x21q]
     exact o1
   ·have d1:decide (((i+1:Nat):Int)<((s.size:Nat):Int))=false:=decide_eq_false (by omega)
    have hnil:s.data.toList.drop (i+1)=[]:=List.drop_of_length_le (by omega)
    have hpre:([36,123]:List UInt8).isPrefixOf [s.data.toList[i]]=false:=by simp [List.isPrefixOf]
    rw [hdr,refX,hnil,hpre,Bool.false_and,if_neg (by decide)]
    rw [hnil] at o2
    refine ⟨o,j,q10l ?_,o2⟩
    simp only [q10p,z2u,z2v,gL,dL,wI,p0,q7r,qn6,x26q,x27q,c0,c1,c2,w1,d1,c3,c4,c5,c6,x20q,x3q,x4q,show (false==true)=false from rfl,x1q,x21q]
    exact o1
  ·have c0:decide (((i:Nat):Int)<((s.size:Nat):Int))=false:=decide_eq_false (by omega)
   have hnil:s.data.toList.drop i=[]:=List.drop_of_length_le (by omega)
   refine ⟨out,((i:Nat):Int),q10l ?_,?_⟩
   ·simp only [q10p,z2u,z2v,gL,dL,wI,p0,q7r,qn6,x26q,x27q,c0,x1q,x21q,x20q]
   ·rw [hnil]
    cases m <;> rw [refX,List.append_nil]
theorem qj7 {n:Nat} {mm:MM} (hI:RI n ps mm) (hn:n≤900000) (hs:s.size≤1000):q10x (ps.map Prod.fst) (ps.map Prod.snd) a st sp s=some (exT mm s):=by
 obtain ⟨o,j,o1,o2⟩:=x_l3 a st sp ps s hs (by have:=hI.all;omega) hI.val s.size 0 noTx s.size (by omega) (by omega) (by omega) (by show 0+_≤_;omega)
 rw [x10q] at o2
 rw [Int.natCast_zero] at o1
 have ho:o.data.toList=refX (getM mm) s.size s.data.toList:=by
  rw [o2,q1an hI.vr];rfl
 have hol:=q55 o
 have hT:(exT mm s).data.toList=(refX (getM mm) s.size s.data.toList).take 4000:=by rw [qiy mm s s.size (Nat.le_refl _)]
 rw [←ho] at hT
 refine q10i ?_
 unfold noTx at o1
 simp only [q10y,gL,dL,q7r,qn6,x26q,x27q,x20q,o1,x0q]
 by_cases h:o.size>4000
 ·have c:decide (((o.size:Nat):Int)>4000)=true:=decide_eq_true (by omega)
  have c1:decide ((0:Int)≤4000)=true:=rfl
  have c2:decide ((4000:Int)≤((o.size:Nat):Int))=true:=decide_eq_true (by omega)
  simp only [c,c1,c2,x20q,x4q]
  congr 1
  apply ba_eq
  rw [hT,show (Int.toNat 4000)=4000 from rfl,q54,x10q]
 ·have c:decide (((o.size:Nat):Int)>4000)=false:=decide_eq_false (by omega)
  simp only [c,x1q,x21q]
  congr 1
  apply ba_eq
  rw [hT,List.take_of_length_le (by omega)]
end
end Go.Proofs.YtokahibbkdbndaaGreatDoor
