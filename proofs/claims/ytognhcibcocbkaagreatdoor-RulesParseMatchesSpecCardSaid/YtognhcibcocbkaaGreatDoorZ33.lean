/- The reference's tokens are the tokens. -/
import Derived.Test.YtognhcibcocbkaaGreatDoorZ29
import Derived.Test.YtognhcibcocbkaaGreatDoorH5
namespace Go.Proofs.YtognhcibcocbkaaGreatDoor
open Go.RowKit
def kindW (k:Nat):Int:=if k=0 then 101 else if k=1 then 113 else if k=2 then 119 else if k=3 then 110 else if k=4 then 115 else 120
def wordW (x:Tok):S53:=⟨kindW x.k,baL x.s,((x.o:Nat):Int)⟩
theorem wr_u8 (c:UInt8):IntKind.i64.wrap ((c.toNat:Nat):Int)=((c.toNat:Nat):Int):=q167 (by have:=c.toNat_lt;omega)
section
variable (b:ByteArray) (hb:b.size≤4000)
include hb
omit hb in
theorem q73 {k:Nat} (hk:k<b.size):b.extract k (k+1)=baL [b.data.getD k 0]:=by
 rw [q72,q53 b hk,show k+1 - k=1 by omega];rfl
theorem tk_g19 {k:Nat} (hk:k<b.size) (out:Nat) (fr:Int) (acc:List UInt8) (ha:acc.length≤4000) (bad:Bool) (W:List S53) :
  qmn b out (k:Int) fr (baL acc) bad W=some ((b,(out,(((k+1:Nat):Int),(fr,(baL (acc++[b.data.getD k 0]),bad))))),W):=by
 have e2:IntKind.i64.wrap ((k:Int)+1)=((k+1:Nat):Int):=q168 hk (by omega)
 have g:decide ((((baL acc).size+(b.extract k (k+1)).size:Nat):Int)>IntKind.max .i64)=false:=decide_eq_false (by
  rw [q73 b hk,q30,q30]
  show ¬ (_>(9223372036854775807:Int))
  simp only [List.length_cons,List.length_nil];omega)
 refine qmp ?_
 simp only [qmt,gL,dL,wI,p0,q3w,q8t,EC.decL_encL,EC.isL_encL,e2,Int.toNat_natCast,show (0:Int)≤((k+1:Nat):Int) by omega,show ((k+1:Nat):Int)≤((b.size:Nat):Int) by omega,show (0:Int)≤(k:Int) by omega,show ((k:Nat):Int)≤((k+1:Nat):Int) by omega,decide_true,Bool.and_self,if_true,g,Bool.false_eq_true,if_false]
 rw [q73 b hk,q2y]
def QW (out:Nat) (fr:Int) (W:List S53) (acc:List UInt8) (k:Nat) (y:Option (List UInt8×Nat)) (x:((ByteArray×Nat×Int×Int×ByteArray×Bool×Bool)×(List S53))⊕(((ByteArray×Nat×Int×Int×ByteArray×Bool×Bool)×(List S53))⊕((ByteArray×Nat×Int×Int×ByteArray×Bool)×(List S53)))):Prop:=match y with
 |some y=>x=.inr (.inr ((b,(out,(((k+y.2 - 1:Nat):Int),(fr,(baL (acc++y.1),false))))),W))
 |none=>(∃ i s,x=.inl ((b,(out,(i,(fr,(s,(true,false)))))),W))∨(∃ i s,x=.inr (.inl ((b,(out,(i,(fr,(s,(true,true)))))),W)))
theorem tk_q (out:Nat) (fr:Int) (W:List S53):∀ n k:Nat,b.size - k≤n→k≤b.size→∀ acc:List UInt8,acc.length≤k →
  ∃ x,qn1 b out (k:Int) fr (baL acc) true W=some x∧QW b out fr W acc k (strq (b.data.toList.drop k)) x:=by
 intro n
 induction n using Nat.strongRecOn with
 |_ n ih =>
  intro k hn hk acc hacc
  rcases Nat.lt_or_ge k b.size with hlt|hge
  ·have e1:((k:Int)<(b.size:Int)):=by omega
   have e0:(0:Int)≤(k:Int):=by omega
   have e2:IntKind.i64.wrap ((k:Int)+1)=((k+1:Nat):Int):=q168 hlt (by omega)
   have c34:∀ c:UInt8,(((c.toNat:Nat):Int)==(34:Int))=decide (c=34):=fun c=>q4d c 34 (by decide)
   have c92:∀ c:UInt8,(((c.toNat:Nat):Int)==(92:Int))=decide (c=92):=fun c=>q4d c 92 (by decide)
   have eL:∀ c:UInt8,(acc++[c]).length=acc.length+1:=fun c=>by simp
   rw [q53 b hlt,q137]
   have hg:=tk_g19 b hb hlt out fr acc (by omega) true W
   generalize hc:b.data.getD k 0=c at *
   by_cases h34:c=34
   ·refine ⟨.inr (.inr ((b,(out,((k:Int),(fr,(baL acc,false))))),W)),qn3 ?_,?_⟩
    ·simp only [qn9,gL,dL,wI,p0,q3w,q8t,EC.decL_encL,EC.isL_encL,e1,e0,decide_true,if_true,Int.toNat_natCast,hlt,Bool.and_self,hc,h34,c34]
    ·rw [if_pos h34]
     simp only [QW,List.append_nil]
     rw [show k+1 - 1=k by omega]
   have n34:decide (c=34)=false:=by simp [h34]
   rw [if_neg h34]
   by_cases h92:c=92
   ·have y92:decide (c=92)=true:=by simp [h92]
    rw [if_pos h92]
    rcases Nat.lt_or_ge (k+1) b.size with hlt2|hge2
    ·have e4:(((k+1:Nat):Int)==((b.size:Nat):Int))=false:=by simp;omega
     rw [q53 b hlt2]
     have hg2:=tk_g19 b hb hlt2 out fr acc (by omega) true W
     generalize hd:b.data.getD (k+1) 0=c2 at *
     have step:∃ x,qn1 b out ((k+2:Nat):Int) fr (baL (acc++[c2])) true W=some x∧QW b out fr W (acc++[c2]) (k+2) (strq (b.data.toList.drop (k+2))) x :=
      ih (b.size - (k+2)) (by omega) (k+2) (Nat.le_refl _) hlt2 (acc++[c2]) (by rw [eL];omega)
     have want:∀ z x,QW b out fr W (acc++[c2]) (k+2) z x→QW b out fr W acc k (z.map fun x=>(c2::x.1,x.2+2)) x:=fun z x h=>by
      cases z with
      |none=>exact h
      |some y =>
       simp only [QW,Option.map_some] at h ⊢
       rw [h,List.append_assoc,List.singleton_append,show k+2+y.2 - 1=k+(y.2+2) - 1 by omega]
     have c1:(0:Int)≤((k+1:Nat):Int):=by omega
     by_cases f34:c2=34
     ·obtain ⟨x,hx,hy⟩:=step
      have y2:((((c2.toNat:Nat):Int) != (34:Int))==true)=false:=by rw [bne,c34];simp [f34]
      refine ⟨x,qn3 ?_,?_⟩
      ·simp only [qn9,gL,dL,wI,p0,q3w,q8t,EC.decL_encL,EC.isL_encL,e1,e0,c1,decide_true,if_true,Int.toNat_natCast,hlt,hlt2,Bool.and_self,hc,hd,n34,c34,y92,c92,Bool.false_eq_true,if_false,e2,e4,y2,beq_self_eq_true,hg2,Option.bind_some]
       exact hx
      ·dsimp only;rw [if_pos (Or.inl f34)];exact want _ _ hy
     have y2:((((c2.toNat:Nat):Int) != (34:Int))==true)=true:=by rw [bne,c34];simp [f34]
     by_cases f92:c2=92
     ·obtain ⟨x,hx,hy⟩:=step
      have y3:(((c2.toNat:Nat):Int) != (92:Int))=false:=by rw [bne,c92];simp [f92]
      refine ⟨x,qn3 ?_,?_⟩
      ·simp only [qn9,gL,dL,wI,p0,q3w,q8t,EC.decL_encL,EC.isL_encL,e1,e0,c1,decide_true,if_true,Int.toNat_natCast,hlt,hlt2,Bool.and_self,hc,hd,n34,c34,y92,c92,Bool.false_eq_true,if_false,e2,e4,y2,y3,beq_self_eq_true,hg2,Option.bind_some]
       exact hx
      ·dsimp only;rw [if_pos (Or.inr f92)];exact want _ _ hy
     have y3:(((c2.toNat:Nat):Int) != (92:Int))=true:=by rw [bne,c92];simp [f92]
     refine ⟨.inr (.inl ((b,(out,(((k+1:Nat):Int),(fr,(baL acc,(true,true)))))),W)),qn3 ?_,?_⟩
     ·simp only [qn9,gL,dL,wI,p0,q3w,q8t,EC.decL_encL,EC.isL_encL,e1,e0,c1,decide_true,if_true,Int.toNat_natCast,hlt,hlt2,Bool.and_self,hc,hd,n34,c34,y92,c92,Bool.false_eq_true,if_false,e2,e4,y2,y3,beq_self_eq_true]
     ·dsimp only;rw [if_neg (by simp [f34,f92])];exact .inr ⟨_,_,rfl⟩
    ·have e5:k+1=b.size:=by omega
     have e4:(((k+1:Nat):Int)==((b.size:Nat):Int))=true:=by simp [e5]
     have e:b.data.toList.drop (k+1)=[]:=List.drop_eq_nil_of_le (by rw [qbx];omega)
     refine ⟨.inr (.inl ((b,(out,(((k+1:Nat):Int),(fr,(baL acc,(true,true)))))),W)),qn3 ?_,?_⟩
     ·simp only [qn9,gL,dL,wI,p0,q3w,q8t,EC.decL_encL,EC.isL_encL,e1,e0,decide_true,if_true,Int.toNat_natCast,hlt,Bool.and_self,hc,n34,c34,y92,c92,Bool.false_eq_true,if_false,e2,e4,show (true==false)=false from rfl]
     ·rw [e];exact .inr ⟨_,_,rfl⟩
   ·have n92:decide (c=92)=false:=by simp [h92]
    obtain ⟨x,hx,hy⟩:=ih (b.size - (k+1)) (by omega) (k+1) (Nat.le_refl _) hlt (acc++[c]) (by rw [eL];omega)
    rw [if_neg h92]
    refine ⟨x,qn3 ?_,?_⟩
    ·simp only [qn9,gL,dL,wI,p0,q3w,q8t,EC.decL_encL,EC.isL_encL,e1,e0,decide_true,if_true,Int.toNat_natCast,hlt,Bool.and_self,hc,n34,c34,n92,c92,Bool.false_eq_true,if_false,hg,Option.bind_some]
     exact hx
    ·cases hq:strq (b.data.toList.drop (k+1)) with
     |none=>rw [hq] at hy;exact hy
     |some y =>
      rw [hq] at hy
      simp only [QW,Option.map_some] at hy ⊢
      rw [hy,List.append_assoc,List.singleton_append,show k+1+y.2 - 1=k+(y.2+1) - 1 by omega]
  ·have hk:k=b.size:=by omega
   subst hk
   have e:b.data.toList.drop b.size=[]:=List.drop_eq_nil_of_le (by rw [qbx];omega)
   have e1:¬ ((b.size:Int)<(b.size:Int)):=by omega
   refine ⟨.inl ((b,(out,((b.size:Int),(fr,(baL acc,(true,false)))))),W),qn3 ?_,?_⟩
   ·simp only [qn9,gL,dL,wI,p0,q3w,q8t,EC.decL_encL,EC.isL_encL,e1,decide_false,Bool.false_eq_true,if_false,if_true]
   ·rw [e];exact .inl ⟨_,_,rfl⟩
theorem tk_l28 (out:Nat) (fr kind:Int) (W:List S53):∀ m k:Nat,k+m=b.size →
  qna b out (k:Int) fr kind W=some ((b,(out,(((k+((b.data.toList.drop k).takeWhile smallB).length:Nat):Int),(fr,(kind,false))))),W):=by
 intro m
 induction m with
 |zero =>
  intro k hk
  have hk:k=b.size:=by omega
  subst hk
  have e:b.data.toList.drop b.size=[]:=List.drop_eq_nil_of_le (by rw [qbx];omega)
  have e1:¬ ((b.size:Int)<(b.size:Int)):=by omega
  refine qnc ?_
  simp only [qng,gL,dL,wI,p0,q3w,q8t,EC.decL_encL,EC.isL_encL,e,List.takeWhile_nil,List.length_nil,Nat.add_zero,e1,decide_false,show (false==true)=false from rfl,Bool.false_eq_true,if_false,if_true]
 |succ m ih =>
  intro k hk
  have hlt:k<b.size:=by omega
  have e1:((k:Int)<(b.size:Int)):=by omega
  have e0:(0:Int)≤(k:Int):=by omega
  have e2:IntKind.i64.wrap ((k:Int)+1)=((k+1:Nat):Int):=q168 hlt (by omega)
  have h:=ih (k+1) (by omega)
  rw [q53 b hlt,List.takeWhile_cons]
  have ex:k+1+((b.data.toList.drop (k+1)).takeWhile smallB).length=k+(((b.data.toList.drop (k+1)).takeWhile smallB).length+1):=by omega
  refine qnc ?_
  simp only [qng,gL,dL,wI,p0,q3w,q8t,EC.decL_encL,EC.isL_encL,e1,e0,decide_true,beq_self_eq_true,if_true,Int.toNat_natCast,hlt,Bool.and_self,q9u,in97,in48,Option.bind_some,e2,h]
  generalize b.data.getD k 0=c
  cases h1:letterB c with
  |true =>
   have hs:smallB c=true:=by simp [smallB,h1]
   simp only [hs,show (true==false)=false from rfl,Bool.false_eq_true,if_false,if_true,List.length_cons,ex]
  |false =>
   cases h2:digitB c with
   |true =>
    have hs:smallB c=true:=by simp [smallB,h2]
    simp only [hs,beq_self_eq_true,if_true,List.length_cons,ex]
   |false =>
    have hs:smallB c=false:=by simp [smallB,h1,h2]
    simp only [hs,beq_self_eq_true,Bool.false_eq_true,if_true,if_false,List.length_nil,Nat.add_zero]
theorem tk_l32 (out:Nat) (fr kind:Int) (W:List S53):∀ m k:Nat,k+m=b.size →
  qni b out (k:Int) fr kind W=some ((b,(out,(((k+((b.data.toList.drop k).takeWhile digitB).length:Nat):Int),(fr,(kind,false))))),W):=by
 intro m
 induction m with
 |zero =>
  intro k hk
  have hk:k=b.size:=by omega
  subst hk
  have e:b.data.toList.drop b.size=[]:=List.drop_eq_nil_of_le (by rw [qbx];omega)
  have e1:¬ ((b.size:Int)<(b.size:Int)):=by omega
  refine qnk ?_
  simp only [qno,gL,dL,wI,p0,q3w,q8t,EC.decL_encL,EC.isL_encL,e,List.takeWhile_nil,List.length_nil,Nat.add_zero,e1,decide_false,show (false==true)=false from rfl,Bool.false_eq_true,if_false,if_true]
 |succ m ih =>
  intro k hk
  have hlt:k<b.size:=by omega
  have e1:((k:Int)<(b.size:Int)):=by omega
  have e0:(0:Int)≤(k:Int):=by omega
  have e2:IntKind.i64.wrap ((k:Int)+1)=((k+1:Nat):Int):=q168 hlt (by omega)
  have h:=ih (k+1) (by omega)
  rw [q53 b hlt,List.takeWhile_cons]
  have ex:k+1+((b.data.toList.drop (k+1)).takeWhile digitB).length=k+(((b.data.toList.drop (k+1)).takeWhile digitB).length+1):=by omega
  refine qnk ?_
  simp only [qno,gL,dL,wI,p0,q3w,q8t,EC.decL_encL,EC.isL_encL,e1,e0,decide_true,beq_self_eq_true,if_true,Int.toNat_natCast,hlt,Bool.and_self,q9u,in48,Option.bind_some,e2,h]
  generalize b.data.getD k 0=c
  cases h2:digitB c with
  |true=>simp only [if_true,List.length_cons,ex]
  |false=>simp only [Bool.false_eq_true,if_false,List.length_nil,Nat.add_zero]
omit hb in
theorem tk_g34 (W:List S53) (hw:W.length≤4000) {i j:Nat} (hij:i≤j) (hj:j≤b.size) (kind:Int) :
  qmu b W.length (j:Int) (i:Int) kind W=some ((b,((W++[(⟨kind,baL ((b.data.toList.drop i).take (j - i)),((i:Nat):Int)⟩:S53)]).length,((j:Nat):Int))),W++[(⟨kind,baL ((b.data.toList.drop i).take (j - i)),((i:Nat):Int)⟩:S53)]):=by
 have g1:decide ((W.length+1+(W.length+1) / 4+192)*32≤281474976710656)=true:=by simp;omega
 have g2:decide (W.length+1≤9223372036854775807)=true:=by simp;omega
 refine qmw ?_
 simp only [qn0,z17,p0,aL,dQ,q8t,EC.decL_encL,EC.isL_encL,q1k,q20,show (0:Int)≤((j:Nat):Int) by omega,show ((j:Nat):Int)≤((b.size:Nat):Int) by omega,show (0:Int)≤((i:Nat):Int) by omega,Int.toNat_natCast,show ((i:Nat):Int)≤((j:Nat):Int) by omega,decide_true,Bool.and_self,if_true,List.length_cons,List.length_nil,Nat.zero_add,g1,g2,List.all_cons,List.all_nil,beq_self_eq_true,q72,List.length_append]
def TkR (L:List S53) (x:(Nat×List S53)⊕((ByteArray×Nat×Int×Bool)×List S53)):Prop:=match x with
 |.inl r=>r.2=L
 |.inr r=>r.1.1=b∧r.1.2.1=r.2.length∧r.2++[(⟨101,noTx,((b.size:Nat):Int)⟩:S53)]=L∧r.2.length≤4000
theorem tk_l3:∀ n k:Nat,b.size - k≤n→k≤b.size→∀ W:List S53,W.length≤k →
  ∃ x,qnh b W.length (k:Int) W=some x∧TkR b (W++(toksF (b.data.toList.drop k) k).map wordW) x:=by
 intro n
 induction n using Nat.strongRecOn with
 |_ n ih =>
  intro k hn hk W hW
  rcases Nat.lt_or_ge k b.size with hlt|hge
  ·have e1:((k:Int)<(b.size:Int)):=by omega
   have e0:(0:Int)≤(k:Int):=by omega
   have e2:IntKind.i64.wrap ((k:Int)+1)=((k+1:Nat):Int):=q168 hlt (by omega)
   have c32:∀ c:UInt8,(((c.toNat:Nat):Int)==(32:Int))=decide (c=32):=fun c=>q4d c 32 (by decide)
   have c9:∀ c:UInt8,(((c.toNat:Nat):Int)==(9:Int))=decide (c=9):=fun c=>q4d c 9 (by decide)
   have c10:∀ c:UInt8,(((c.toNat:Nat):Int)==(10:Int))=decide (c=10):=fun c=>q4d c 10 (by decide)
   have c13:∀ c:UInt8,(((c.toNat:Nat):Int)==(13:Int))=decide (c=13):=fun c=>q4d c 13 (by decide)
   have c34:∀ c:UInt8,(((c.toNat:Nat):Int)==(34:Int))=decide (c=34):=fun c=>q4d c 34 (by decide)
   have hws:=ih (b.size - (k+1)) (by omega) (k+1) (Nat.le_refl _) hlt W (by omega)
   have hdr:=q53 b hlt
   have hq:=tk_q b hb W.length (k:Int) W (b.size - (k+1)) (k+1) (Nat.le_refl _) hlt [] (Nat.zero_le _)
   have h28:=tk_l28 b hb W.length (k:Int) 119 W (b.size - (k+1)) (k+1) (by omega)
   have h32:=tk_l32 b hb W.length (k:Int) 110 W (b.size - (k+1)) (k+1) (by omega)
   have hle:∀ q:UInt8→Bool,k+1+((b.data.toList.drop (k+1)).takeWhile q).length≤b.size:=fun q=>by
    have:=q14t q (b.data.toList.drop (k+1))
    rw [List.length_drop,qbx] at this
    omega
   have hg:=fun (j:Nat) (h1:k≤j) (h2:j≤b.size) (kind:Int)=>tk_g34 b W (by omega) h1 h2 kind
   have htake:∀ q:UInt8→Bool,(b.data.toList.drop k).take (k+1+((b.data.toList.drop (k+1)).takeWhile q).length - k)=b.data.getD k 0::(b.data.toList.drop (k+1)).takeWhile q:=fun q=>by
    rw [hdr,show k+1+((b.data.toList.drop (k+1)).takeWhile q).length - k=((b.data.toList.drop (k+1)).takeWhile q).length+1 by omega,List.take_succ_cons,q14w]
   have hnext:∀ (j:Nat) (y:S53),k<j→j≤b.size→∃ x,qnh b (W++[y]).length (j:Int) (W++[y])=some x∧TkR b (W++(y::(toksF (b.data.toList.drop j) j).map wordW)) x:=fun j y h1 h2=>by
    have:=ih (b.size - j) (by omega) j (Nat.le_refl _) h2 (W++[y]) (by simp;omega)
    rwa [List.append_assoc,List.singleton_append] at this
   rw [hdr]
   generalize hc:b.data.getD k 0=c at *
   by_cases hw:wsB c=true
   ·obtain ⟨x,hx,hy⟩:=hws
    rw [q15e c hw]
    refine ⟨x,qnq ?_,hy⟩
    simp only [qnv,z18,gL,dL,wI,p0,aL,dQ,q3w,q8t,EC.decL_encL,EC.isL_encL,q1k,q20,e1,e0,decide_true,if_true,Int.toNat_natCast,hlt,Bool.and_self,hc,wr_u8,c32,c9,c10,c13,e2,hx]
    simp only [wsB,Bool.or_eq_true,beq_iff_eq] at hw
    rcases hw with ((rfl|rfl)|rfl)|rfl <;> simp
   have hwf:wsB c=false:=by simpa using hw
   have n32:¬ c=32:=fun h=>hw (by rw [h];decide)
   have n9:¬ c=9:=fun h=>hw (by rw [h];decide)
   have n10:¬ c=10:=fun h=>hw (by rw [h];decide)
   have n13:¬ c=13:=fun h=>hw (by rw [h];decide)
   rw [q15d c hwf]
   by_cases h34:c=34
   ·obtain ⟨x,hx,hy⟩:=hq
    have d34:decide (c=34)=true:=by simp [h34]
    cases hs:strq (b.data.toList.drop (k+1)) with
    |none =>
     rw [hs] at hy
     have g1:decide ((W.length+1+(W.length+1) / 4+192)*32≤281474976710656)=true:=by simp;omega
     have g2:decide (W.length+1≤9223372036854775807)=true:=by simp;omega
     refine ⟨.inl (W.length+1,W++[⟨120,noTx,(k:Int)⟩]),qnq ?_,?_⟩
     ·have hx':qn1 b W.length ((k+1:Nat):Int) (k:Int) noTx true W=some x:=hx
      simp only [qnv,z18,gL,dL,wI,p0,aL,dQ,q3w,q8t,EC.decL_encL,EC.isL_encL,q1k,q20,e1,e0,decide_true,if_true,Int.toNat_natCast,hlt,Bool.and_self,hc,wr_u8,c32,c9,c10,c13,c34,e2,hx',n32,n9,n10,n13,d34,decide_false,beq_self_eq_true,Bool.false_eq_true,if_false,Option.bind_some]
      rcases hy with ⟨i,s,rfl⟩|⟨i,s,rfl⟩
      ·simp only [Sum.elim_inl,if_true,List.length_cons,List.length_nil,Nat.zero_add,g1,g2,List.all_cons,List.all_nil,Bool.and_true,Bool.true_and,beq_self_eq_true]
      ·simp only [Sum.elim_inl,Sum.elim_inr,if_true,List.length_cons,List.length_nil,Nat.zero_add,g1,g2,List.all_cons,List.all_nil,Bool.and_true,Bool.true_and,beq_self_eq_true]
     ·simp only [lexT,h34,hs,if_true,TkR]
      rfl
    |some y =>
     rw [hs] at hy
     have hy:x=.inr (.inr ((b,(W.length,(((k+1+y.2 - 1:Nat):Int),((k:Int),(baL ([]++y.1),false))))),W)):=hy
     obtain ⟨y1,y2⟩:=q139 _ _ (Nat.le_refl _) y hs
     rw [List.length_drop,qbx] at y2
     have e3:IntKind.i64.wrap (((k+1+y.2 - 1:Nat):Int)+1)=((k+1+y.2:Nat):Int):=by rw [q167 (by omega)];omega
     have g1:decide ((W.length+1+(W.length+1) / 4+192)*32≤281474976710656)=true:=by simp;omega
     have g2:decide (W.length+1≤9223372036854775807)=true:=by simp;omega
     obtain ⟨z,hz1,hz2⟩:=hnext (k+1+y.2) ⟨113,baL y.1,(k:Int)⟩ (by omega) (by omega)
     rw [List.length_append] at hz1
     refine ⟨z,qnq ?_,?_⟩
     ·have hx':qn1 b W.length ((k+1:Nat):Int) (k:Int) noTx true W=some x:=hx
      simp only [qnv,z18,gL,dL,wI,p0,aL,dQ,q3w,q8t,EC.decL_encL,EC.isL_encL,q1k,q20,e1,e0,decide_true,if_true,Int.toNat_natCast,hlt,Bool.and_self,hc,wr_u8,c32,c9,c10,c13,c34,e2,hx',n32,n9,n10,n13,d34,decide_false,beq_self_eq_true,Bool.false_eq_true,if_false,Option.bind_some,hy,Sum.elim_inr,List.length_cons,List.length_nil,Nat.zero_add,g1,g2,List.all_cons,List.all_nil,Bool.true_and,e3,List.nil_append]
      exact hz1
     ·have hE:endK 1=false:=rfl
      simp only [lexT,h34,hs,if_true,hE,Bool.false_eq_true,if_false,List.map_cons,List.drop_succ_cons,List.drop_drop]
      rw [show k+(y.2+1)=k+1+y.2 by omega]
      exact hz2
   have n34:decide (c=34)=false:=by simp [h34]
   cases hl:letterB c with
   |true =>
    obtain ⟨z,hz1,hz2⟩:=hnext (k+1+((b.data.toList.drop (k+1)).takeWhile smallB).length) ⟨119,baL (c::(b.data.toList.drop (k+1)).takeWhile smallB),(k:Int)⟩ (by omega) (hle _)
    have hg':=hg (k+1+((b.data.toList.drop (k+1)).takeWhile smallB).length) (by omega) (hle _) 119
    rw [htake] at hg'
    refine ⟨z,qnq ?_,?_⟩
    ·simp only [qnv,z18,gL,dL,wI,p0,aL,dQ,q3w,q8t,EC.decL_encL,EC.isL_encL,q1k,q20,e1,e0,decide_true,if_true,Int.toNat_natCast,hlt,Bool.and_self,hc,e2,Option.bind_some,q9u,in97,in48,hl,h28,hg']
     simp only [wr_u8,c32,c9,c10,c13,c34,n32,n9,n10,n13,n34,decide_false,beq_self_eq_true,Bool.false_eq_true,if_false,if_true]
     exact hz1
    ·have hE:endK 2=false:=rfl
     simp only [lexT,h34,hl,if_true,if_false,hE,Bool.false_eq_true,List.map_cons,List.drop_succ_cons,List.drop_drop]
     rw [show k+(((b.data.toList.drop (k+1)).takeWhile smallB).length+1)=k+1+((b.data.toList.drop (k+1)).takeWhile smallB).length by omega]
     exact hz2
   |false =>
    cases hd:digitB c with
    |true =>
     obtain ⟨z,hz1,hz2⟩:=hnext (k+1+((b.data.toList.drop (k+1)).takeWhile digitB).length) ⟨110,baL (c::(b.data.toList.drop (k+1)).takeWhile digitB),(k:Int)⟩ (by omega) (hle _)
     have hg':=hg (k+1+((b.data.toList.drop (k+1)).takeWhile digitB).length) (by omega) (hle _) 110
     rw [htake] at hg'
     refine ⟨z,qnq ?_,?_⟩
     ·simp only [qnv,z18,gL,dL,wI,p0,aL,dQ,q3w,q8t,EC.decL_encL,EC.isL_encL,q1k,q20,e1,e0,decide_true,if_true,Int.toNat_natCast,hlt,Bool.and_self,hc,e2,Bool.false_eq_true,if_false,Option.bind_some,q9u,in97,in48,hl,hd,h32,hg']
      simp only [wr_u8,c32,c9,c10,c13,c34,n32,n9,n10,n13,n34,decide_false,beq_self_eq_true,Bool.false_eq_true,if_false,if_true]
      exact hz1
     ·have hE:endK 3=false:=rfl
      simp only [lexT,h34,hl,hd,if_true,if_false,hE,Bool.false_eq_true,List.map_cons,List.drop_succ_cons,List.drop_drop]
      rw [show k+(((b.data.toList.drop (k+1)).takeWhile digitB).length+1)=k+1+((b.data.toList.drop (k+1)).takeWhile digitB).length by omega]
      exact hz2
    |false =>
     obtain ⟨z,hz1,hz2⟩:=hnext (k+1) ⟨115,baL [c],(k:Int)⟩ (by omega) hlt
     have hg':=hg (k+1) (by omega) hlt 115
     rw [hdr,show k+1 - k=1 by omega,List.take_succ_cons,List.take_zero] at hg'
     refine ⟨z,qnq ?_,?_⟩
     ·simp only [qnv,z18,gL,dL,wI,p0,aL,dQ,q3w,q8t,EC.decL_encL,EC.isL_encL,q1k,q20,e1,e0,decide_true,if_true,Int.toNat_natCast,hlt,Bool.and_self,hc,e2,Bool.false_eq_true,if_false,Option.bind_some,q9u,in97,in48,hl,hd,hg']
      simp only [wr_u8,c32,c9,c10,c13,c34,n32,n9,n10,n13,n34,decide_false,beq_self_eq_true,Bool.false_eq_true,if_false,if_true]
      exact hz1
     ·have hE:endK 4=false:=rfl
      simp only [lexT,h34,hl,hd,if_false,hE,Bool.false_eq_true,List.map_cons,List.drop_succ_cons,List.drop_zero]
      exact hz2
  ·have hk:k=b.size:=by omega
   subst hk
   have e:b.data.toList.drop b.size=[]:=List.drop_eq_nil_of_le (by rw [qbx];omega)
   have e1:¬ ((b.size:Int)<(b.size:Int)):=by omega
   refine ⟨.inr ((b,(W.length,((b.size:Int),false))),W),qnq ?_,rfl,rfl,?_,by show W.length≤4000;omega⟩
   ·simp only [qnv,z18,gL,dL,wI,p0,aL,dQ,q3w,q8t,EC.decL_encL,EC.isL_encL,q1k,q20,e1,decide_false,Bool.false_eq_true,if_false,if_true]
   ·rw [e,q15c];rfl
theorem q15b:qnw b=some ((toksF b.data.toList 0).map wordW):=by
 obtain ⟨x,hx,hy⟩:=tk_l3 b hb b.size 0 (by omega) (Nat.zero_le _) [] (Nat.le_refl _)
 have hx:qnh b 0 0 []=some x:=hx
 have e0:q5s.decL []=[]:=rfl
 refine qmm ?_
 simp only [qnx,dL,aL,dQ,q8t,EC.decL_encL,EC.isL_encL,q1k,q20,e0,hx,Option.bind_some]
 rw [List.drop_zero,List.nil_append] at hy
 cases x with
 |inl r =>
  have hy:r.2=_:=hy
  simp only [Sum.elim_inl,if_true,hy]
 |inr r =>
  obtain ⟨h1,h2,h3,h4⟩:=hy
  have g1:decide ((r.2.length+1+(r.2.length+1) / 4+192)*32≤281474976710656)=true:=by simp;omega
  have g2:decide (r.2.length+1≤9223372036854775807)=true:=by simp;omega
  simp only [Sum.elim_inr,h1,h2,List.length_cons,List.length_nil,Nat.zero_add,g1,g2,List.all_cons,List.all_nil,Bool.true_and,beq_self_eq_true,if_true,Bool.and_self]
  rw [←h3]
end
end Go.Proofs.YtognhcibcocbkaaGreatDoor
namespace Go.Proofs.YtognhcibcocbkaaGreatDoor
open Go.RowKit
theorem qav (a:Nat) {k:Nat} (hk:k≤4):(kindW a==kindW k)=(a==k):=by
 have hk:k=0∨k=1∨k=2∨k=3∨k=4:=by omega
 by_cases h0:a=0
 ·subst h0;rcases hk with rfl|rfl|rfl|rfl|rfl <;> rfl
 by_cases h1:a=1
 ·subst h1;rcases hk with rfl|rfl|rfl|rfl|rfl <;> rfl
 by_cases h2:a=2
 ·subst h2;rcases hk with rfl|rfl|rfl|rfl|rfl <;> rfl
 by_cases h3:a=3
 ·subst h3;rcases hk with rfl|rfl|rfl|rfl|rfl <;> rfl
 by_cases h4:a=4
 ·subst h4;rcases hk with rfl|rfl|rfl|rfl|rfl <;> rfl
 have e:kindW a=120:=by simp [kindW,h0,h1,h2,h3,h4]
 rw [e]
 rcases hk with rfl|rfl|rfl|rfl|rfl <;> simp [kindW, *]
section
variable (L0:List Tok)
theorem q169 {i:Nat} {x:Tok} {R:List Tok} (h:L0.drop i=x::R):i<L0.length∧L0.drop (i+1)=R∧∀ d,(L0.map wordW).getD i d=wordW x:=by
 have hi:i<L0.length:=by
  rcases Nat.lt_or_ge i L0.length with h1|h1
  ·exact h1
  ·rw [List.drop_eq_nil_of_le h1] at h;cases h
 rw [List.drop_eq_getElem_cons hi] at h
 injection h with h1 h2
 refine ⟨hi,h2,fun d=>?_⟩
 rw [List.getD_eq_getElem?_getD,List.getElem?_map,List.getElem?_eq_getElem hi,h1]
 rfl
theorem ris_s {i:Nat} {x:Tok} {R:List Tok} (h:L0.drop i=x::R) (m bd:Int) {k:Nat} (hk:k≤4) {kd:Int} (hd:kindW k=kd) (w:List UInt8) :
  qog (L0.map wordW) (i:Int) m bd kd (baL w)=some (isT k w (x::R)):=by
 obtain ⟨h1,h2,h3⟩:=q169 L0 h
 subst hd
 refine qof ?_
 simp only [qoh,eC,p0,q3w,q8t,EC.encL_length,qa9,q27,q28,show (0:Int)≤(i:Int) by omega,decide_true,Int.toNat_natCast,List.length_map,h1,Bool.and_self,if_true,h3,wordW,qav x.k hk,q3m,isT]
 cases x.k==k <;> simp
theorem q110 {t:Nat} {x:Tok} {R:List Tok} (h:L0.drop t=x::R) (n m:Int):qqe (L0.map wordW) n m (-1) (t:Int)=some (n,(m,((x.o:Nat):Int))):=by
 obtain ⟨h1,h2,h3⟩:=q169 L0 h
 refine qqd ?_
 simp only [qqf,eC,p0,q3w,q8t,EC.encL_length,qa9,q29,show (0:Int)≤(t:Int) by omega,show (-1:Int)<0 by omega,decide_true,Int.toNat_natCast,List.length_map,h1,Bool.and_self,if_true,h3,wordW]
theorem q10z (W:List S53) (n m t:Int) {bd:Int} (hb:0≤bd):qqe W n m bd t=some (n,(m,bd)):=by
 refine qqd ?_
 simp only [qqf,eC,p0,q3w,show ¬ bd<0 by omega,decide_false,Bool.false_eq_true,if_false]
theorem qry (W:List S53) (n m kd:Int) {bd:Int} (hb:0≤bd):qq2 W n m bd kd=some (noTx,(n,(m,bd))):=by
 refine qq1 ?_
 simp only [qq3,gL,dL,eC,wI,p0,q3w,show bd≥0 from hb,decide_true,if_true]
theorem qrs (W:List S53) (n m kd:Int) (w:ByteArray) {bd:Int} (hb:0≤bd):qpw W n m bd kd w=some (n,(m,bd)):=by
 refine qpv ?_
 simp only [qpx,gL,dL,wI,q3w,show bd≥0 from hb,decide_true,if_true]
variable (hL:L0.length≤4001)
include hL
theorem qrz {i:Nat} {x:Tok} {R:List Tok} (h:L0.drop i=x::R) (m:Int) {k:Nat} (hk:k≤4) {kd:Int} (hd:kindW k=kd) :
  qq2 (L0.map wordW) (i:Int) m (-1) kd=if x.k=k then some (baL x.s,(((i+1:Nat):Int),(m,-1))) else some (noTx,((i:Int),(m,((x.o:Nat):Int)))):=by
 obtain ⟨h1,h2,h3⟩:=q169 L0 h
 have e2:IntKind.i64.wrap ((i:Int)+1)=((i+1:Nat):Int):=q168 h1 (by omega)
 subst hd
 by_cases hx:x.k=k
 ·rw [if_pos hx]
  have e:(kindW x.k != kindW k)=false:=by rw [bne,qav _ hk];simp [hx]
  refine qq1 ?_
  simp only [qq3,gL,dL,eC,wI,p0,q3w,q8t,EC.decL_encL,EC.isL_encL,EC.encL_length,qa9,q27,q28,show ¬ (-1:Int)≥0 by omega,show (0:Int)≤(i:Int) by omega,decide_true,decide_false,Int.toNat_natCast,List.length_map,h1,Bool.and_self,if_true,h3,wordW,e,Bool.false_eq_true,if_false,e2]
 ·rw [if_neg hx]
  have e:(kindW x.k != kindW k)=true:=by rw [bne,qav _ hk];simp [hx]
  refine qq1 ?_
  simp only [qq3,gL,dL,eC,wI,p0,q3w,q8t,EC.decL_encL,EC.isL_encL,EC.encL_length,qa9,q27,q28,show ¬ (-1:Int)≥0 by omega,show (0:Int)≤(i:Int) by omega,decide_true,decide_false,Int.toNat_natCast,List.length_map,h1,Bool.and_self,if_true,h3,e,Bool.false_eq_true,if_false,q110 L0 h,Option.bind_some,show (wordW x).Kind=kindW x.k from rfl]
theorem qrt {i:Nat} {x:Tok} {R:List Tok} (h:L0.drop i=x::R) (m:Int) {k:Nat} (hk:k≤4) {kd:Int} (hd:kindW k=kd) (w:List UInt8) :
  qpw (L0.map wordW) (i:Int) m (-1) kd (baL w)=if isT k w (x::R)=true then some (((i+1:Nat):Int),(m,-1)) else some ((i:Int),(m,((x.o:Nat):Int))):=by
 obtain ⟨h1,h2,h3⟩:=q169 L0 h
 have e2:IntKind.i64.wrap ((i:Int)+1)=((i+1:Nat):Int):=q168 h1 (by omega)
 cases ht:isT k w (x::R) with
 |true =>
  rw [if_pos rfl]
  refine qpv ?_
  simp only [qpx,gL,dL,wI,q3w,q8t,EC.decL_encL,EC.isL_encL,show ¬ (-1:Int)≥0 by omega,decide_false,Bool.false_eq_true,if_false,if_true,ris_s L0 h m (-1) hk hd w,Option.bind_some,e2,ht,Bool.not_true]
 |false =>
  rw [if_neg (by simp)]
  refine qpv ?_
  simp only [qpx,gL,dL,wI,q3w,q8t,EC.decL_encL,EC.isL_encL,show ¬ (-1:Int)≥0 by omega,decide_false,Bool.false_eq_true,if_false,if_true,ris_s L0 h m (-1) hk hd w,Option.bind_some,q110 L0 h,ht,Bool.not_false]
end
end Go.Proofs.YtognhcibcocbkaaGreatDoor
