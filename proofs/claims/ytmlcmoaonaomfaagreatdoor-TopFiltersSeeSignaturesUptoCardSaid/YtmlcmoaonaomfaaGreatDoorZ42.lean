/- How the parser reads a token. -/
import Derived.Test.YtmlcmoaonaomfaaGreatDoorZ41
import Derived.Test.YtmlcmoaonaomfaaGreatDoorH3
namespace Go.Proofs.YtmlcmoaonaomfaaGreatDoor
set_option linter.unusedSimpArgs false
open Go.RowKit
theorem q17t (c:UInt8):qzs ((c.toNat:Nat):Int)=some (letterB c):=by
 refine qzr ?_
 simp only [qzt,q85,letterB]
 by_cases h1:(97:Int)<=c.toNat <;> by_cases h2:(c.toNat:Int)<=122 <;>
  simp [h1,h2,show (97<=c.toNat) ↔ ((97:Int)<=c.toNat) by omega,show (c.toNat<=122) ↔ ((c.toNat:Int)<=122) by omega]
theorem qcl (c:UInt8):qzy ((c.toNat:Nat):Int)=some (digitB c):=by
 refine qzx ?_
 simp only [qzz,q85,digitB]
 by_cases h3:(48:Int)<=c.toNat <;> by_cases h4:(c.toNat:Int)<=57 <;>
  simp [h3,h4,show (48<=c.toNat) ↔ ((48:Int)<=c.toNat) by omega,show (c.toNat<=57) ↔ ((c.toNat:Int)<=57) by omega]
theorem u8_nat (c:UInt8):Nat.toUInt8 c.toNat=c:=UInt8.ofNat_toNat
theorem ws_ix (c:UInt8):decide (Lib.indexByte [(32:UInt8),(9:UInt8),(13:UInt8),(10:UInt8)] c≥0)=wsB c:=by
 simp only [Lib.indexByte,wsB]
 by_cases h1:c=32
 ·subst h1;decide
 by_cases h2:c=9
 ·subst h2;decide
 by_cases h3:c=13
 ·subst h3;decide
 by_cases h4:c=10
 ·subst h4;decide
 have g1:((32:UInt8)==c)=false:=by simpa using Ne.symm h1
 have g2:((9:UInt8)==c)=false:=by simpa using Ne.symm h2
 have g3:((13:UInt8)==c)=false:=by simpa using Ne.symm h3
 have g4:((10:UInt8)==c)=false:=by simpa using Ne.symm h4
 simp [g1,g2,g3,g4,h1,h2,h3,h4]
theorem c_eq (c:UInt8) (k:Nat) (hk:k<256):((((c.toNat:Nat):Int)==(k:Int)))=decide (c=UInt8.ofNat k):=by
 have e:(UInt8.ofNat k).toNat=k:=by rw [UInt8.toNat_ofNat'];omega
 rw [Bool.eq_iff_iff]
 simp only [beq_iff_eq,decide_eq_true_eq]
 constructor
 ·intro h
  apply UInt8.toNat_inj.1
  rw [e]
  omega
 ·intro h
  rw [h,e]
section
variable (b:BA) (hb:b.size<=4000) (k0 o0:Int) (s0:BA) (bd:Bool) (r d ts:Int)
include hb
theorem q17o:∀ m k:Nat,k+m=b.size->q103 b (k:Int) k0 o0 s0 bd r d ts=some (((),false),(b,(((k+wsN (b.data.toList.drop k):Nat):Int),(k0,(o0,(s0,(bd,(r,(d,ts))))))))):=by
 intro m
 induction m with
 |zero =>
  intro k hk
  have hk:k=b.size:=by omega
  subst hk
  refine q105 ?_
  have e:b.data.toList.drop b.size=[]:=List.drop_eq_nil_of_le (by rw [qqg];omega)
  have e1:¬ ((b.size:Int)<(b.size:Int)):=by omega
  simp only [q109,wI,p0,q85,e,wsN,List.takeWhile_nil,x8q,Nat.add_zero,e1,decide_false,x1q,x21q,beq_t]
 |succ m ih =>
  intro k hk
  have hlt:k<b.size:=by omega
  have e1:((k:Int)<(b.size:Int)):=by omega
  have e2:IntKind.i64.wrap ((k:Int)+1)=((k+1:Nat):Int):=q1et hlt (by omega)
  refine q105 ?_
  simp only [q109,wI,p0,q85,qk3,beq_t,e1,decide_true,x20q,show (0:Int)<=(k:Int) by omega,x3q,hlt,x4q,u8_nat,ws_ix,e2]
  rw [qc0 b hlt]
  generalize b.data.getD k 0=c
  cases hw:wsB c with
  |true =>
   rw [if_pos rfl,ih (k+1) (by omega)]
   have:wsN (c::b.data.toList.drop (k+1))=wsN (b.data.toList.drop (k+1))+1:=by simp [wsN,List.takeWhile_cons,hw]
   rw [this]
   congr 5
   omega
  |false =>
   rw [if_neg (by simp)]
   have:wsN (c::b.data.toList.drop (k+1))=0:=by simp [wsN,List.takeWhile_cons,hw]
   rw [this]
   rfl
def runB (kind:Nat) (c:UInt8):Bool:=digitB c||(kind==2&&letterB c)
theorem q1en (at1:Int) (kind:Nat):∀ m k:Nat,k+m=b.size->q10a (k:Int) (kind:Int) b at1 k0 o0 s0 bd r d ts=some (((),((),((),(((k+((b.data.toList.drop k).takeWhile (runB kind)).length:Nat):Int),((kind:Int),false))))),(b,(at1,(k0,(o0,(s0,(bd,(r,(d,ts))))))))):=by
 intro m
 induction m with
 |zero =>
  intro k hk
  have hk:k=b.size:=by omega
  subst hk
  refine q10c ?_
  have e:b.data.toList.drop b.size=[]:=List.drop_eq_nil_of_le (by rw [qqg];omega)
  have e1:¬ ((b.size:Int)<(b.size:Int)):=by omega
  simp only [q10g,wI,p0,q85,e,List.takeWhile_nil,x8q,Nat.add_zero,e1,decide_false,x1q,x21q,beq_t]
 |succ m ih =>
  intro k hk
  have hlt:k<b.size:=by omega
  have e1:((k:Int)<(b.size:Int)):=by omega
  have e2:IntKind.i64.wrap ((k:Int)+1)=((k+1:Nat):Int):=q1et hlt (by omega)
  have e3:(((kind:Int)==(2:Int)))=(kind==2):=by rw [Bool.eq_iff_iff];simp;omega
  refine q10c ?_
  simp only [q10g,wI,p0,q85,qk3,beq_t,beq_f,e1,decide_true,x20q,show (0:Int)<=(k:Int) by omega,x3q,hlt,x4q,q17t,qcl,x0q,e2,e3,ih (k+1) (by omega)]
  rw [qc0 b hlt,List.takeWhile_cons]
  have ex:k+1+((b.data.toList.drop (k+1)).takeWhile (runB kind)).length=k+(((b.data.toList.drop (k+1)).takeWhile (runB kind)).length+1):=by omega
  generalize b.data.getD k 0=c
  have hr:runB kind c=(digitB c||(kind==2&&letterB c)):=rfl
  cases h1:digitB c with
  |true =>
   rw [h1,Bool.true_or] at hr
   simp only [hr,x15q,x1q,x21q,x20q,x9q,ex]
  |false =>
   cases h2:kind==2 with
   |false =>
    rw [h1,h2,Bool.false_and,Bool.or_false] at hr
    simp [hr]
   |true =>
    cases h3:letterB c with
    |true =>
     rw [h1,h2,h3,Bool.true_and,Bool.or_true] at hr
     simp only [hr,x11q,x20q,x9q,ex]
    |false =>
     rw [h1,h2,h3,Bool.true_and,Bool.or_false] at hr
     simp [hr]
end
theorem run2 (c:UInt8):runB 2 c=smallB c:=by simp [runB,smallB,Bool.or_comm]
theorem run3 (c:UInt8):runB 3 c=digitB c:=by simp [runB]
theorem qg4 (b:BA) (i j:Nat):b.extract i j=baL ((b.data.toList.drop i).take (j - i)):=by
 apply ByteArray.ext
 apply Array.toList_inj.1
 rw [ByteArray.data_extract]
 simp only [baL,Array.toList_extract,List.extract_eq_take_drop,List.toList_toArray]
theorem q1d0 (p:UInt8->Bool) (l:List UInt8):l.take (l.takeWhile p).length=l.takeWhile p:=(List.prefix_iff_eq_take.1 (List.takeWhile_prefix p)).symm
abbrev Pst:=BA×Int×Int×Int×BA×Bool×Int×Int×Int
def intz (l:List UInt8):List Int:=l.map λc=>((c.toNat:Nat):Int)
theorem q8q:∀ l:List UInt8,bytesOf (qcy.encL (intz l))=some l
 |[]=>rfl
 |c::l=>by
  have e:qcy.encL (intz (c::l))=[.int .u8 ((c.toNat:Nat):Int)]::qcy.encL (intz l):=rfl
  rw [e]
  simp only [bytesOf,q8q l,x18q,x3q]
  rw [UInt8.ofNat_toNat]
theorem qo8 (a:List UInt8) (c:UInt8):intz a++[((c.toNat:Nat):Int)]=intz (a++[c]):=by simp [intz]
abbrev QR:=(Unit×((Int×Int×BA)×Pst))⊕((Unit×Unit×Unit×Nat×Int×Bool)×(Pst×(Int×Int×BA)×(Int×Int×BA)×(List Int)))
def qRes (x:QR):(Int×Int×BA)×Pst:=Sum.elim (λr1=>(r1.2.1,r1.2.2)) (λr1=>((5,r1.2.2.2.1.2.1,r1.2.2.2.1.2.2),r1.2.1)) x
section
variable (b:BA) (hb:b.size<=4000) (k0 o0 at0:Int) (s0:BA) (bd:Bool) (r d ts:Int) (q1 q2:Int) (q3:BA)
def qWant (at1:Int) (acc:List UInt8) (k:Nat) (y:Oq (List UInt8×Nat)):(Int×Int×BA)×Pst:=match y with
 |some y=>((1,at0,baL (acc++y.1)),(b,(((k+y.2:Nat):Int),k0,o0,s0,bd,r,d,ts)))
 |none=>((5,at0,noTx),(b,at1,k0,o0,s0,bd,r,d,ts))
include hb
theorem qx9 (at1:Int):∀ n k:Nat,b.size - k<=n->k<=b.size->∀ acc:List UInt8,acc.length<=k ->
  ∃ x:QR,q12g acc.length (k:Int) b at1 k0 o0 s0 bd r d ts q1 q2 q3 1 at0 noTx (intz acc)=some x /\
   qRes x=qWant b k0 o0 at0 s0 bd r d ts at1 acc k (strq (b.data.toList.drop k)):=by
 intro n
 induction n using Nat.strongRecOn with
 |_ n ih =>
  intro k hn hk acc hacc
  rcases Nat.lt_or_ge k b.size with hlt|hge
  ·have e1:((k:Int)<(b.size:Int)):=by omega
   have e2:IntKind.i64.wrap ((k:Int)+1)=((k+1:Nat):Int):=q1et hlt (by omega)
   have g1:decide ((acc.length+1+(acc.length+1) / 4+192)*1<=281474976710656)=true:=by simp;omega
   have g2:decide (acc.length+1<=9223372036854775807)=true:=by simp;omega
   have c34:∀ c:UInt8,(((c.toNat:Nat):Int)==(34:Int))=decide (c=34):=λc=>c_eq c 34 (by decide)
   have c92:∀ c:UInt8,(((c.toNat:Nat):Int)==(92:Int))=decide (c=92):=λc=>c_eq c 92 (by decide)
   have eL:∀ c:UInt8,(acc++[c]).length=acc.length+1:=λc=>by simp
   rw [qc0 b hlt,q19v]
   generalize hc:b.data.getD k 0=c
   by_cases h34:c=34
   ·refine ⟨.inl ((),((1,at0,ByteArray.mk (List.toArray acc)),(b,((k+1:Nat):Int),k0,o0,s0,bd,r,d,ts))),q12i ?_,?_⟩
    ·simp only [q12n,z8,za,zb,gL,dL,wI,p0,aL,dQ,q85,qk3,x25q,x26q,x27q,qol,q4x,q3k,q43,q164,qoo,q52,q3n,q46,q16b,qom,q4y,q4z,q3l,q44,q166,q165,q167,qon,q50,q51,q3m,q45,q169,q168,q16a,qoh,q4c,q4d,q4e,q4f,q4g,q4h,q3g,q3z,q15h,q15g,q15i,q15j,q15k,q15l,q15m,qoj,q4j,q4k,q4o,q4p,q4q,q4r,q4s,q4t,q4u,q4v,q4l,q4m,q4n,q3i,q41,q15p,q15o,q15u,q15t,q15v,q15w,q15x,q15y,q15z,q160,q161,q162,q15q,q15r,q15s,qoi,q4i,q3h,q40,q15n,e1,decide_true,x20q,show (0:Int)<=(k:Int) by omega,x3q,hlt,x4q,hc,h34,c34,q8q,x0q,e2]
    ·simp only [h34,x20q,qWant,qRes,Sum.elim_inl,List.append_nil,baL]
   have n34:decide (c=34)=false:=by simp [h34]
   by_cases h92:c=92
   ·have y92:decide (c=92)=true:=by simp [h92]
    rw [if_neg h34,if_pos h92]
    rcases Nat.lt_or_ge (k+1) b.size with hlt2|hge2
    ·have e3:IntKind.i64.wrap (((k+1:Nat):Int)+1)=((k+2:Nat):Int):=q1et hlt2 (by omega)
     have e4:(((k+1:Nat):Int)==((b.size:Nat):Int))=false:=by simp;omega
     rw [qc0 b hlt2]
     generalize hd:b.data.getD (k+1) 0=c2
     have step:(c2=34∨c2=92)->∃ x:QR,q12g (acc.length+1) ((k+2:Nat):Int) b at1 k0 o0 s0 bd r d ts q1 q2 q3 1 at0 noTx (intz (acc++[c2]))=some x /\
       qRes x=qWant b k0 o0 at0 s0 bd r d ts at1 (acc++[c2]) (k+2) (strq (b.data.toList.drop (k+2))):=λ_=>by
      have:=ih (b.size - (k+2)) (by omega) (k+2) (Nat.le_refl _) hlt2 (acc++[c2]) (by rw [eL];omega)
      rwa [eL] at this
     have want:∀ z:Oq (List UInt8×Nat),qWant b k0 o0 at0 s0 bd r d ts at1 (acc++[c2]) (k+2) z=qWant b k0 o0 at0 s0 bd r d ts at1 acc k (z.map λx=>(c2::x.1,x.2+2)):=λz=>by
      cases z with
      |none=>rfl
      |some y =>
       simp only [qWant,x18q,List.append_assoc,List.singleton_append]
       rw [show k+2+y.2=k+(y.2+2) by omega]
     by_cases f34:c2=34
     ·obtain ⟨x,hx,hy⟩:=step (.inl f34)
      have y2:((((c2.toNat:Nat):Int) != (34:Int))==true)=false:=by rw [bne,c34];simp [f34]
      refine ⟨x,q12i ?_,?_⟩
      ·simp only [q12n,z8,za,zb,gL,dL,wI,p0,aL,dQ,q85,qk3,x25q,x26q,x27q,qol,q4x,q3k,q43,q164,qoo,q52,q3n,q46,q16b,qom,q4y,q4z,q3l,q44,q166,q165,q167,qon,q50,q51,q3m,q45,q169,q168,q16a,qoh,q4c,q4d,q4e,q4f,q4g,q4h,q3g,q3z,q15h,q15g,q15i,q15j,q15k,q15l,q15m,qoj,q4j,q4k,q4o,q4p,q4q,q4r,q4s,q4t,q4u,q4v,q4l,q4m,q4n,q3i,q41,q15p,q15o,q15u,q15t,q15v,q15w,q15x,q15y,q15z,q160,q161,q162,q15q,q15r,q15s,qoi,q4i,q3h,q40,q15n,e1,decide_true,x20q,show (0:Int)<=(k:Int) by omega,show (0:Int)<=((k+1:Nat):Int) by omega,x3q,hlt,hlt2,x4q,hc,hd,n34,c34,y92,c92,x1q,x21q,e2,e3,e4,y2,x9q,x8q,x13q,g1,g2,x17q,x23q,Bool.and_true,Bool.true_and,x19q,qo8,hx]
      ·rw [hy,want];dsimp only;rw [if_pos (Or.inl f34)]
     have y2:((((c2.toNat:Nat):Int) != (34:Int))==true)=true:=by rw [bne,c34];simp [f34]
     by_cases f92:c2=92
     ·obtain ⟨x,hx,hy⟩:=step (.inr f92)
      have y3:(((c2.toNat:Nat):Int) != (92:Int))=false:=by rw [bne,c92];simp [f92]
      refine ⟨x,q12i ?_,?_⟩
      ·simp only [q12n,z8,za,zb,gL,dL,wI,p0,aL,dQ,q85,qk3,x25q,x26q,x27q,qol,q4x,q3k,q43,q164,qoo,q52,q3n,q46,q16b,qom,q4y,q4z,q3l,q44,q166,q165,q167,qon,q50,q51,q3m,q45,q169,q168,q16a,qoh,q4c,q4d,q4e,q4f,q4g,q4h,q3g,q3z,q15h,q15g,q15i,q15j,q15k,q15l,q15m,qoj,q4j,q4k,q4o,q4p,q4q,q4r,q4s,q4t,q4u,q4v,q4l,q4m,q4n,q3i,q41,q15p,q15o,q15u,q15t,q15v,q15w,q15x,q15y,q15z,q160,q161,q162,q15q,q15r,q15s,qoi,q4i,q3h,q40,q15n,e1,decide_true,x20q,show (0:Int)<=(k:Int) by omega,show (0:Int)<=((k+1:Nat):Int) by omega,x3q,hlt,hlt2,x4q,hc,hd,n34,c34,y92,c92,x1q,x21q,e2,e3,e4,y2,y3,x9q,x8q,x13q,g1,g2,x17q,x23q,Bool.and_true,Bool.true_and,x19q,qo8,hx]
      ·rw [hy,want];dsimp only;rw [if_pos (Or.inr f92)]
     have y3:(((c2.toNat:Nat):Int) != (92:Int))=true:=by rw [bne,c92];simp [f92]
     refine ⟨.inl ((),((5,at0,noTx),(b,at1,k0,o0,s0,bd,r,d,ts))),q12i ?_,?_⟩
     ·simp only [q12n,z8,za,zb,gL,dL,wI,p0,aL,dQ,q85,qk3,x25q,x26q,x27q,qol,q4x,q3k,q43,q164,qoo,q52,q3n,q46,q16b,qom,q4y,q4z,q3l,q44,q166,q165,q167,qon,q50,q51,q3m,q45,q169,q168,q16a,qoh,q4c,q4d,q4e,q4f,q4g,q4h,q3g,q3z,q15h,q15g,q15i,q15j,q15k,q15l,q15m,qoj,q4j,q4k,q4o,q4p,q4q,q4r,q4s,q4t,q4u,q4v,q4l,q4m,q4n,q3i,q41,q15p,q15o,q15u,q15t,q15v,q15w,q15x,q15y,q15z,q160,q161,q162,q15q,q15r,q15s,qoi,q4i,q3h,q40,q15n,e1,decide_true,x20q,show (0:Int)<=(k:Int) by omega,show (0:Int)<=((k+1:Nat):Int) by omega,x3q,hlt,hlt2,x4q,hc,hd,n34,c34,y92,c92,x1q,x21q,e2,e3,e4,y2,y3,x19q]
     ·dsimp only;rw [if_neg (by simp [f34,f92])];rfl
    ·have e5:k+1=b.size:=by omega
     have e4:(((k+1:Nat):Int)==((b.size:Nat):Int))=true:=by simp [e5]
     have e:b.data.toList.drop (k+1)=[]:=List.drop_eq_nil_of_le (by rw [qqg];omega)
     refine ⟨.inl ((),((5,at0,noTx),(b,at1,k0,o0,s0,bd,r,d,ts))),q12i ?_,?_⟩
     ·simp only [q12n,z8,za,zb,gL,dL,wI,p0,aL,dQ,q85,qk3,x25q,x26q,x27q,qol,q4x,q3k,q43,q164,qoo,q52,q3n,q46,q16b,qom,q4y,q4z,q3l,q44,q166,q165,q167,qon,q50,q51,q3m,q45,q169,q168,q16a,qoh,q4c,q4d,q4e,q4f,q4g,q4h,q3g,q3z,q15h,q15g,q15i,q15j,q15k,q15l,q15m,qoj,q4j,q4k,q4o,q4p,q4q,q4r,q4s,q4t,q4u,q4v,q4l,q4m,q4n,q3i,q41,q15p,q15o,q15u,q15t,q15v,q15w,q15x,q15y,q15z,q160,q161,q162,q15q,q15r,q15s,qoi,q4i,q3h,q40,q15n,e1,decide_true,x20q,show (0:Int)<=(k:Int) by omega,x3q,hlt,x4q,hc,n34,c34,y92,c92,x1q,x21q,e2,e4,show (true==false)=false from rfl]
     ·rw [e];rfl
   ·have n92:decide (c=92)=false:=by simp [h92]
    obtain ⟨x,hx,hy⟩:=ih (b.size - (k+1)) (by omega) (k+1) (Nat.le_refl _) hlt (acc++[c]) (by rw [eL];omega)
    rw [eL] at hx
    refine ⟨x,q12i ?_,?_⟩
    ·simp only [q12n,z8,za,zb,gL,dL,wI,p0,aL,dQ,q85,qk3,x25q,x26q,x27q,qol,q4x,q3k,q43,q164,qoo,q52,q3n,q46,q16b,qom,q4y,q4z,q3l,q44,q166,q165,q167,qon,q50,q51,q3m,q45,q169,q168,q16a,qoh,q4c,q4d,q4e,q4f,q4g,q4h,q3g,q3z,q15h,q15g,q15i,q15j,q15k,q15l,q15m,qoj,q4j,q4k,q4o,q4p,q4q,q4r,q4s,q4t,q4u,q4v,q4l,q4m,q4n,q3i,q41,q15p,q15o,q15u,q15t,q15v,q15w,q15x,q15y,q15z,q160,q161,q162,q15q,q15r,q15s,qoi,q4i,q3h,q40,q15n,e1,decide_true,x20q,show (0:Int)<=(k:Int) by omega,x3q,hlt,x4q,hc,n34,c34,n92,c92,x1q,x21q,e2,x9q,x8q,x13q,g1,g2,x17q,x23q,Bool.and_true,Bool.true_and,x19q,qo8,hx]
    ·rw [hy,if_neg h34,if_neg h92]
     cases hq:strq (b.data.toList.drop (k+1)) with
     |none=>rfl
     |some y =>
      simp only [qWant,x18q,List.append_assoc,List.singleton_append]
      rw [show k+1+y.2=k+(y.2+1) by omega]
  ·have hk:k=b.size:=by omega
   subst hk
   have e:b.data.toList.drop b.size=[]:=List.drop_eq_nil_of_le (by rw [qqg];omega)
   have e1:¬ ((b.size:Int)<(b.size:Int)):=by omega
   refine ⟨.inr (((),((),((),(acc.length,((b.size:Int),false))))),((b,at1,k0,o0,s0,bd,r,d,ts),((q1,q2,q3),((1,at0,noTx),intz acc)))),q12i ?_,?_⟩
   ·simp only [q12n,z8,za,zb,gL,dL,wI,p0,aL,dQ,q85,qk3,x25q,x26q,x27q,qol,q4x,q3k,q43,q164,qoo,q52,q3n,q46,q16b,qom,q4y,q4z,q3l,q44,q166,q165,q167,qon,q50,q51,q3m,q45,q169,q168,q16a,qoh,q4c,q4d,q4e,q4f,q4g,q4h,q3g,q3z,q15h,q15g,q15i,q15j,q15k,q15l,q15m,qoj,q4j,q4k,q4o,q4p,q4q,q4r,q4s,q4t,q4u,q4v,q4l,q4m,q4n,q3i,q41,q15p,q15o,q15u,q15t,q15v,q15w,q15x,q15y,q15z,q160,q161,q162,q15q,q15r,q15s,qoi,q4i,q3h,q40,q15n,e1,decide_false,x1q,x21q,x20q]
   ·rw [e];rfl
theorem qxe (k:Nat) (hk:k<b.size):∃ y:(Int×Int×BA)×Pst,q12d b (k:Int) k0 o0 s0 bd r d ts=some (y.1,y) /\
  y=qWant b k0 o0 (k:Int) s0 bd r d ts (k:Int) [] (k+1) (strq (b.data.toList.drop (k+1))):=by
 have e2:IntKind.i64.wrap ((k:Int)+1)=((k+1:Nat):Int):=q1et hk (by omega)
 obtain ⟨x,hx,hy⟩:=qx9 b hb k0 o0 (k:Int) s0 bd r d ts 0 0 noTx (k:Int) (b.size - (k+1)) (k+1) (Nat.le_refl _) hk [] (Nat.zero_le _)
 have e0:qcy.decL []=intz []:=rfl
 refine ⟨_,q12f ?_,hy⟩
 simp only [q12r,wI,e2,e0]
 rw [show q12g 0 ((k+1:Nat):Int) b (k:Int) k0 o0 s0 bd r d ts 0 0 noTx 1 (k:Int) noTx (intz [])=some x from hx,Option.bind_some]
 cases x <;> rfl
theorem q15 (n:Nat) (hn:n<=b.size):q100 b (n:Int) k0 o0 s0 bd r d ts=some ((),((),(b,(((n+wsN (b.data.toList.drop n)+(lexT (b.data.toList.drop (n+wsN (b.data.toList.drop n)))).2:Nat):Int),
  (((lexT (b.data.toList.drop (n+wsN (b.data.toList.drop n)))).1.1:Nat):Int),((n+wsN (b.data.toList.drop n):Nat):Int),baL (lexT (b.data.toList.drop (n+wsN (b.data.toList.drop n)))).1.2,bd,r,d,ts)))):=by
 have h0:=q17o b hb k0 o0 s0 bd r d ts (b.size - n) n (by omega)
 have hw:n+wsN (b.data.toList.drop n)<=b.size:=by
  have:=wsN_le (b.data.toList.drop n)
  rw [List.length_drop,qqg] at this
  omega
 generalize hp:n+wsN (b.data.toList.drop n)=p at *
 refine q102 ?_
 simp only [q10k,wI,p0,q85,qk3,h0,x0q]
 rcases Nat.lt_or_ge p b.size with hlt|hge
 ·have e1:(((p:Nat):Int)==((b.size:Nat):Int))=false:=by simp;omega
  have e2:IntKind.i64.wrap ((p:Int)+1)=((p+1:Nat):Int):=q1et hlt (by omega)
  have c34:∀ c:UInt8,(((c.toNat:Nat):Int)==(34:Int))=decide (c=34):=λc=>c_eq c 34 (by decide)
  simp only [e1,x1q,x21q,decide_true,x3q,show (0:Int)<=(p:Int) by omega,hlt,x4q,x20q,c34,q17t,qcl,x0q,e2]
  obtain ⟨y,hy,hv⟩:=qxe b hb k0 o0 s0 bd r d ts p hlt
  have hr:=λkind:Nat=>q1en b hb k0 o0 s0 bd r d ts (p:Int) kind (b.size - (p+1)) (p+1) (by omega)
  have hr2:=hr 2
  have hr3:=hr 3
  rw [show (((2:Nat):Int))=2 from rfl,show runB 2=smallB from funext run2] at hr2
  rw [show (((3:Nat):Int))=3 from rfl,show runB 3=digitB from funext run3] at hr3
  have hdr:=qc0 b hlt
  have hle:∀ q:UInt8->Bool,p+1+((b.data.toList.drop (p+1)).takeWhile q).length<=b.size:=λq=>by
   have:=q1cv q (b.data.toList.drop (p+1))
   rw [List.length_drop,qqg] at this
   omega
  have hex:∀ q:UInt8->Bool,b.extract p (p+1+((b.data.toList.drop (p+1)).takeWhile q).length)=baL (b.data.getD p 0::(b.data.toList.drop (p+1)).takeWhile q):=λq=>by
   rw [qg4,hdr,show p+1+((b.data.toList.drop (p+1)).takeWhile q).length - p=((b.data.toList.drop (p+1)).takeWhile q).length+1 by omega,List.take_succ_cons,q1d0]
  have hex1:b.extract p (p+1)=baL [b.data.getD p 0]:=by
   rw [qg4,hdr,show p+1 - p=1 by omega];rfl
  rw [hdr]
  generalize hc:b.data.getD p 0=c at *
  by_cases h34:c=34
  ·rw [if_pos (by simp [h34]),hy,Option.bind_some,hv]
   rw [h34]
   cases hq:strq (b.data.toList.drop (p+1)) with
   |none=>simp only [lexT,hq,x20q,qWant,Nat.add_zero];rfl
   |some z =>
    simp only [lexT,hq,x20q,qWant,List.nil_append]
    rw [show p+1+z.2=p+(z.2+1) by omega]
    rfl
  ·rw [if_neg (by simp [h34])]
   cases hl:letterB c with
   |true =>
    simp only [hr2,x0q,x20q,show ∀ n:Nat,(0:Int)<=(n:Int) from λn=>Int.natCast_nonneg n,decide_true,Bool.true_and,x3q,Int.ofNat_le,hle,hex,show p<=p+1+((b.data.toList.drop (p+1)).takeWhile smallB).length by omega,show (true==false)=false from rfl,x1q,x21q,lexT,h34,hl]
    rw [show p+1+((b.data.toList.drop (p+1)).takeWhile smallB).length=p+(((b.data.toList.drop (p+1)).takeWhile smallB).length+1) by omega]
    rfl
   |false =>
    cases hd:digitB c with
    |true =>
     simp only [hr3,x0q,x20q,show ∀ n:Nat,(0:Int)<=(n:Int) from λn=>Int.natCast_nonneg n,decide_true,Bool.true_and,x3q,Int.ofNat_le,hle,hex,show p<=p+1+((b.data.toList.drop (p+1)).takeWhile digitB).length by omega,show (false==false)=true from rfl,x1q,x21q,lexT,h34,hl,hd]
     rw [show p+1+((b.data.toList.drop (p+1)).takeWhile digitB).length=p+(((b.data.toList.drop (p+1)).takeWhile digitB).length+1) by omega]
     rfl
    |false =>
     simp only [x0q,x20q,show ∀ n:Nat,(0:Int)<=(n:Int) from λn=>Int.natCast_nonneg n,decide_true,Bool.true_and,x3q,Int.ofNat_le,show p+1<=b.size from hlt,hex1,show p<=p+1 by omega,show (false==false)=true from rfl,x1q,x21q,lexT,h34,hl,hd]
     rfl
 ·have hp:p=b.size:=by omega
  subst hp
  have e:b.data.toList.drop b.size=[]:=List.drop_eq_nil_of_le (by rw [qqg];omega)
  rw [e]
  simp [lexT,baL]
end
end Go.Proofs.YtmlcmoaonaomfaaGreatDoor
namespace Go.Proofs.YtmlcmoaonaomfaaGreatDoor
set_option linter.unusedSimpArgs false
open Go.RowKit
def At (b:BA) (n:Nat) (x:Tok) (R:List Tok):Prop:=n<=b.size/\(R=if endK x.k=true then [] else toksF (b.data.toList.drop n) n)/\Good (x::R)
abbrev stP (b:BA) (n:Nat) (x:Tok) (bd:Bool) (r d ts:Int):Pst:=(b,((n:Nat):Int),((x.k:Nat):Int),((x.o:Nat):Int),baL x.s,bd,r,d,ts)
section
variable {b:BA} (hb:b.size<=4000)
include hb
theorem q14 {n:Nat} (hn:n<=b.size) (k0 o0:Int) (s0:BA) (bd:Bool) (r d ts:Int) :
  ∃ m y R,toksF (b.data.toList.drop n) n=y::R/\At b m y R/\q100 b (n:Int) k0 o0 s0 bd r d ts=some ((),((),stP b m y bd r d ts)):=by
 have h:=q15 b hb k0 o0 s0 bd r d ts n hn
 have hG:=qka 4000 (b.data.toList.drop n) n (by rw [List.length_drop,qqg];omega) (Nat.le_refl _)
 rw [q1dd] at hG ⊢
 have h1:=qqk ((b.data.toList.drop n).drop (wsN (b.data.toList.drop n)))
 have h2:=wsN_le (b.data.toList.drop n)
 have h3:(b.data.toList.drop n).length=b.size - n:=by rw [List.length_drop,qqg]
 rw [List.length_drop,h3] at h1
 rw [h3] at h2
 simp only [List.drop_drop] at h1 hG ⊢
 generalize wsN (b.data.toList.drop n)=p at *
 refine ⟨n+p+(lexT (b.data.toList.drop (n+p))).2,_,_,rfl,⟨by omega,?_,hG⟩,h⟩
 dsimp only
 rw [Nat.add_assoc n p]
theorem adv_at {n:Nat} {x:Tok} {R:List Tok} (h:At b n x R) (hk:endK x.k=false) (k0 o0:Int) (s0:BA) (bd:Bool) (r d ts:Int) :
  ∃ m y R',R=y::R'/\At b m y R'/\q100 b (n:Int) k0 o0 s0 bd r d ts=some ((),((),stP b m y bd r d ts)):=by
 obtain ⟨h1,h2,_⟩:=h
 rw [hk,if_neg (by simp)] at h2
 subst h2
 exact q14 hb h1 k0 o0 s0 bd r d ts
theorem qov {n:Nat} {x:Tok} {R:List Tok} (h:At b n x R) {k:Nat} (hk:endK k=false) {w:List UInt8} (ht:isT k w (x::R)=true) (r d ts:Int) :
  ∃ m y R',R=y::R'/\At b m y R'/\q10z (k:Int) (baL w) b (n:Int) (x.k:Int) (x.o:Int) (baL x.s) false r d ts=some (true,(true,stP b m y false r d ts)):=by
 simp only [isT,x6q,beq_iff_eq] at ht
 obtain ⟨h1,h2⟩:=ht
 obtain ⟨m,y,R',g1,g2,g3⟩:=adv_at hb h (by rw [h1];exact hk) (x.k:Int) (x.o:Int) (baL x.s) false r d ts
 refine ⟨m,y,R',g1,g2,q111 ?_⟩
 have e2:(x.s==w)=true:=by simp [h2]
 have e1:(((x.k:Nat):Int) != ((k:Nat):Int))=false:=by simp [h1]
 simp only [q115,q85,e1,beq_ba,e2,g3,x0q,x19q,x15q,x1q,x21q,x20q]
theorem q1d1 {n:Nat} {x:Tok} {R:List Tok} (h:At b n x R) {k:Nat} (hk:endK k=false) (hx:x.k=k) (r d ts:Int) :
  ∃ m y R',R=y::R'/\At b m y R'/\q13d (k:Int) b (n:Int) (x.k:Int) (x.o:Int) (baL x.s) false r d ts=some (baL x.s,(baL x.s,stP b m y false r d ts)):=by
 obtain ⟨m,y,R',g1,g2,g3⟩:=adv_at hb h (by rw [hx];exact hk) (x.k:Int) (x.o:Int) (baL x.s) false r d ts
 refine ⟨m,y,R',g1,g2,q13f ?_⟩
 have e1:(((x.k:Nat):Int) != ((k:Nat):Int))=false:=by simp [hx]
 simp only [q13j,q85,e1,g3,x0q,x19q,x1q,x21q,x20q]
omit hb
theorem is_no {n:Nat} {x:Tok} {R:List Tok} {k:Nat} {w:List UInt8} (ht:isT k w (x::R)=false) (r d ts:Int) :
  q10z (k:Int) (baL w) b (n:Int) (x.k:Int) (x.o:Int) (baL x.s) false r d ts=some (false,(false,stP b n x false r d ts)):=by
 refine q111 ?_
 simp only [q115,q85,beq_ba,x19q,x20q]
 by_cases h1:x.k=k
 ·have e1:(((x.k:Nat):Int) != ((k:Nat):Int))=false:=by simp [h1]
  have e2:(x.s==w)=false:=by
   simp only [isT,h1,x19q,Bool.true_and] at ht
   exact ht
  simp only [e1,e2,x19q,x11q,x20q]
 ·have e1:(((x.k:Nat):Int) != ((k:Nat):Int))=true:=by simp;omega
  simp only [e1,show (true==false)=false from rfl,x1q,x21q]
theorem q1cz {n:Nat} {x:Tok} {k:Nat} (hx:x.k≠k) (r d ts:Int) :
  q13d (k:Int) b (n:Int) (x.k:Int) (x.o:Int) (baL x.s) false r d ts=some (noTx,(noTx,stP b n x true r d ts)):=by
 refine q13f ?_
 have e1:(((x.k:Nat):Int) != ((k:Nat):Int))=true:=by simp;omega
 simp only [q13j,q85,e1,x19q,x20q]
end
theorem qou (k:Int) (w:BA) (b:BA) (a c o:Int) (s:BA) (r d ts:Int):q10z k w b a c o s true r d ts=some (false,(false,(b,a,c,o,s,true,r,d,ts))):=by
 refine q111 ?_
 simp only [q115,q85,show (true==false)=false from rfl,x1q,x21q]
theorem q1cx (k:Int) (b:BA) (a c o:Int) (s:BA) (r d ts:Int):q13d k b a c o s true r d ts=some (noTx,(noTx,(b,a,c,o,s,true,r,d,ts))):=by
 refine q13f ?_
 simp only [q13j,q85,show (true==false)=false from rfl,x1q,x21q]
end Go.Proofs.YtmlcmoaonaomfaaGreatDoor
