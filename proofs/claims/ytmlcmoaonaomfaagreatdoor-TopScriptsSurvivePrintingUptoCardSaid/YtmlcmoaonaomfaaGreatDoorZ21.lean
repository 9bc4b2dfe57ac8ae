/- How the parser reads a token. -/
import Derived.Test.YtmlcmoaonaomfaaGreatDoorZ20
namespace Go.Proofs.YtmlcmoaonaomfaaGreatDoor
open Go.RowKit
theorem q1d5 (c:UInt8):q15r ((c.toNat:Nat):Int)=some (letterB c):=by
 refine q15q ?_;simp only [q15s,q8c,letterB]
 by_cases h1:(97:Int)<=c.toNat <;> by_cases h2:(c.toNat:Int)<=122 <;>
  simp [h1,h2,show (97<=c.toNat) ↔ ((97:Int)<=c.toNat) by omega,show (c.toNat<=122) ↔ ((c.toNat:Int)<=122) by omega]
theorem qbe (c:UInt8):q15x ((c.toNat:Nat):Int)=some (digitB c):=by
 refine q15w ?_;simp only [q15y,q8c,digitB]
 by_cases h3:(48:Int)<=c.toNat <;> by_cases h4:(c.toNat:Int)<=57 <;>
  simp [h3,h4,show (48<=c.toNat) ↔ ((48:Int)<=c.toNat) by omega,show (c.toNat<=57) ↔ ((c.toNat:Int)<=57) by omega]
theorem u8_nat (c:UInt8):Nat.toUInt8 c.toNat=c:=UInt8.ofNat_toNat
theorem ws_ix (c:UInt8):decide (Lib.indexByte [(32:UInt8),(9:UInt8),(13:UInt8),(10:UInt8)] c≥0)=wsB c:=by
 simp only [Lib.indexByte,wsB];by_cases h1:c=32
 ·subst h1;decide
 by_cases h2:c=9
 ·subst h2;decide
 by_cases h3:c=13
 ·subst h3;decide
 by_cases h4:c=10
 ·subst h4;decide
 have g1:((32:UInt8)==c)=false:=by simpa using Ne.symm h1
 have g2:((9:UInt8)==c)=false:=by simpa using Ne.symm h2
 have g3:((13:UInt8)==c)=false:=by simpa using Ne.symm h3
 have g4:((10:UInt8)==c)=false:=by simpa using Ne.symm h4
 simp [g1,g2,g3,g4,h1,h2,h3,h4]
theorem c_eq (c:UInt8) (k:Nat) (hk:k<256):(((c.toNat:Nat):Int)==(k:Int))=decide (c=UInt8.ofNat k):=by
 have e:(UInt8.ofNat k).toNat=k:=by rw [y47q];omega
 rw [Bool.eq_iff_iff];simp only [beq_iff_eq,y45q];constructor
 ·intro h
  apply UInt8.toNat_inj.1;rw [e];omega
 ·intro h
  rw [h,e]
section
variable (b:BA) (hb:b.size<=4000) (k0 o0:Int) (s0:BA) (bd:Bool) (r d ts:Int)
include hb
theorem q1d1:∀ m k:Nat,k+m=b.size->q162 b (k:Int) k0 o0 s0 bd r d ts=some (((),false),b,((k+wsN (b.data.toList.drop k):Nat):Int),k0,o0,s0,bd,r,d,ts):=by
 intro m;induction m with
 |zero =>
  intro k hk;have hk:k=b.size:=by omega
  subst hk;refine q164 ?_;have e:b.data.toList.drop b.size=[]:=y16q (by rw [qrq];omega)
  have e1:¬ ((b.size:Int)<(b.size:Int)):=by omega
  simp only [q168,wI,p0,q8c,e,wsN,List.takeWhile_nil,x8q,Nat.add_zero,e1,decide_false,x1q,x21q,q7w]
 |succ m ih =>
  intro k hk;have hlt:k<b.size:=by omega
  have e1:((k:Int)<(b.size:Int)):=by omega
  have e2:IntKind.i64.wrap ((k:Int)+1)=((k+1:Nat):Int):=q1jr hlt (by omega)
  refine q164 ?_;simp only [q168,wI,p0,q8c,qm1,q7w,e1,decide_true,x20q,show (0:Int)<=(k:Int) by omega,x3q,hlt,x4q,u8_nat,ws_ix,e2]
  rw [qap b hlt];generalize b.data.getD k 0=c;cases hw:wsB c with
  |true =>
   rw [if_pos rfl,ih (k+1) (by omega)]
   have:wsN (c::b.data.toList.drop (k+1))=wsN (b.data.toList.drop (k+1))+1:=by simp [wsN,hw]
   rw [this];congr 5;omega
  |false =>
   rw [if_neg (by simp)]
   have:wsN (c::b.data.toList.drop (k+1))=0:=by simp [wsN,hw]
   rw [this];rfl
def runB (kind:Nat) (c:UInt8):Bool:=digitB c||(kind==2&&letterB c)
theorem q1jh (at1:Int) (kind:Nat):∀ m k:Nat,k+m=b.size->q169 (k:Int) (kind:Int) b at1 k0 o0 s0 bd r d ts=some (((),(),(),((k+((b.data.toList.drop k).takeWhile (runB kind)).length:Nat):Int),(kind:Int),false),b,at1,k0,o0,s0,bd,r,d,ts):=by
 intro m;induction m with
 |zero =>
  intro k hk;have hk:k=b.size:=by omega
  subst hk;refine q16b ?_;have e:b.data.toList.drop b.size=[]:=y16q (by rw [qrq];omega)
  have e1:¬ ((b.size:Int)<(b.size:Int)):=by omega
  simp only [q16f,wI,p0,q8c,e,List.takeWhile_nil,x8q,Nat.add_zero,e1,decide_false,x1q,x21q,q7w]
 |succ m ih =>
  intro k hk;have hlt:k<b.size:=by omega
  have e1:((k:Int)<(b.size:Int)):=by omega
  have e2:IntKind.i64.wrap ((k:Int)+1)=((k+1:Nat):Int):=q1jr hlt (by omega)
  have e3:((kind:Int)==(2:Int))=(kind==2):=by rw [Bool.eq_iff_iff];simp;omega
  refine q16b ?_;simp only [q16f,wI,p0,q8c,qm1,q7w,q7v,e1,decide_true,x20q,show (0:Int)<=(k:Int) by omega,x3q,hlt,x4q,q1d5,qbe,x0q,e2,e3,ih (k+1) (by omega)]
  rw [qap b hlt,List.takeWhile_cons];have ex:k+1+((b.data.toList.drop (k+1)).takeWhile (runB kind)).length=k+(((b.data.toList.drop (k+1)).takeWhile (runB kind)).length+1):=by omega
  generalize b.data.getD k 0=c;have hr:runB kind c=(digitB c||(kind==2&&letterB c)):=rfl
  cases h1:digitB c with
  |true =>rw [h1,Bool.true_or] at hr;simp only [hr,x15q,x1q,x21q,x20q,x9q,ex]
  |false =>
   cases h2:kind==2 with
   |false =>rw [h1,h2,Bool.false_and,Bool.or_false] at hr;simp [hr]
   |true =>
    cases h3:letterB c with
    |true =>rw [h1,h2,h3,Bool.true_and,Bool.or_true] at hr;simp only [hr,x11q,x20q,x9q,ex]
    |false =>rw [h1,h2,h3,Bool.true_and,Bool.or_false] at hr;simp [hr]
end
theorem run2 (c:UInt8):runB 2 c=smallB c:=by simp [runB,smallB,Bool.or_comm]
theorem run3 (c:UInt8):runB 3 c=digitB c:=by simp [runB]
theorem qi3 (b:BA) (i j:Nat):b.extract i j=baL ((b.data.toList.drop i).take (j - i)):=by apply ByteArray.ext;apply y34q.1;rw [ByteArray.data_extract];simp only [baL,Array.toList_extract,List.extract_eq_take_drop,List.toList_toArray]
theorem q1hn (p:UInt8->Bool) (l:List UInt8):l.take (l.takeWhile p).length=l.takeWhile p:=(List.prefix_iff_eq_take.1 (List.takeWhile_prefix p)).symm
abbrev Pst:=BA×Int×Int×Int×BA×Bool×Int×Int×Int
def intz (l:List UInt8):List Int:=l.map λc=>((c.toNat:Nat):Int)
theorem q8w:∀ l:List UInt8,bytesOf (qbt.encL (intz l))=some l
 |[]=>rfl
 |c::l=>by have e:qbt.encL (intz (c::l))=[.int .u8 ((c.toNat:Nat):Int)]::qbt.encL (intz l):=rfl;rw [e];simp only [bytesOf,q8w l,x18q,x3q];rw [UInt8.ofNat_toNat]
theorem qpk (a:List UInt8) (c:UInt8):intz a++[((c.toNat:Nat):Int)]=intz (a++[c]):=by simp [intz]
abbrev QR:=(Unit×(Int×Int×BA)×Pst)⊕((Unit×Unit×Unit×Nat×Int×Bool)×Pst×(Int×Int×BA)×(Int×Int×BA)×List Int)
def qRes (x:QR):(Int×Int×BA)×Pst:=Sum.elim (λr1=>(r1.2.1,r1.2.2)) (λr1=>((5,r1.2.2.2.1.2.1,r1.2.2.2.1.2.2),r1.2.1)) x
section
variable (b:BA) (hb:b.size<=4000) (k0 o0 at0:Int) (s0:BA) (bd:Bool) (r d ts:Int) (q1 q2:Int) (q3:BA)
def qWant (at1:Int) (acc:List UInt8) (k:Nat) (y:Oq (List UInt8×Nat)):(Int×Int×BA)×Pst:=match y with
 |some y=>((1,at0,baL (acc++y.1)),b,((k+y.2:Nat):Int),k0,o0,s0,bd,r,d,ts)
 |none=>((5,at0,noTx),b,at1,k0,o0,s0,bd,r,d,ts)
include hb
theorem qzx (at1:Int):∀ n k:Nat,b.size - k<=n->k<=b.size->∀ acc:List UInt8,acc.length<=k ->
  ∃ x:QR,q18f acc.length (k:Int) b at1 k0 o0 s0 bd r d ts q1 q2 q3 1 at0 noTx (intz acc)=some x /\
   qRes x=qWant b k0 o0 at0 s0 bd r d ts at1 acc k (strq (b.data.toList.drop k)):=by
 intro n;induction n using Nat.strongRecOn with
 |_ n ih =>
  intro k hn hk acc hacc;rcases y30q k b.size with hlt|hge
  ·have e1:((k:Int)<(b.size:Int)):=by omega
   have e2:IntKind.i64.wrap ((k:Int)+1)=((k+1:Nat):Int):=q1jr hlt (by omega)
   have g1:decide ((acc.length+1+(acc.length+1) / 4+192)*1<=281474976710656)=true:=by simp;omega
   have g2:decide (acc.length+1<=9223372036854775807)=true:=by simp;omega
   have c34:∀ c:UInt8,(((c.toNat:Nat):Int)==(34:Int))=decide (c=34):=λc=>c_eq c 34 (by decide)
   have c92:∀ c:UInt8,(((c.toNat:Nat):Int)==(92:Int))=decide (c=92):=λc=>c_eq c 92 (by decide)
   have eL:∀ c:UInt8,(acc++[c]).length=acc.length+1:=λc=>by simp
   rw [qap b hlt,q1er];generalize hc:b.data.getD k 0=c;by_cases h34:c=34
   ·refine ⟨.inl ((),(1,at0,ByteArray.mk (List.toArray acc)),b,((k+1:Nat):Int),k0,o0,s0,bd,r,d,ts),q18h ?_,?_⟩
    ·simp only [q18m,q1kp,zt,wI,p0,aL,dQ,zu,gL,dL,wI,p0,aL,dQ,q8c,qm1,x25q,x26q,q3u,apd_5,e1,decide_true,x20q,show (0:Int)<=(k:Int) by omega,x3q,hlt,x4q,hc,h34,c34,q8w,x0q,e2]
    ·simp only [h34,x20q,qWant,qRes,Sum.elim_inl,List.append_nil,baL]
   have n34:decide (c=34)=false:=by simp [h34]
   by_cases h92:c=92
   ·have y92:decide (c=92)=true:=by simp [h92]
    rw [if_neg h34,if_pos h92];rcases y30q (k+1) b.size with hlt2|hge2
    ·have e3:IntKind.i64.wrap (((k+1:Nat):Int)+1)=((k+2:Nat):Int):=q1jr hlt2 (by omega)
     have e4:(((k+1:Nat):Int)==((b.size:Nat):Int))=false:=by simp;omega
     rw [qap b hlt2];generalize hd:b.data.getD (k+1) 0=c2
     have step:(c2=34∨c2=92)->∃ x:QR,q18f (acc.length+1) ((k+2:Nat):Int) b at1 k0 o0 s0 bd r d ts q1 q2 q3 1 at0 noTx (intz (acc++[c2]))=some x /\
       qRes x=qWant b k0 o0 at0 s0 bd r d ts at1 (acc++[c2]) (k+2) (strq (b.data.toList.drop (k+2))):=λ_=>by
      have:=ih (b.size - (k+2)) (by omega) (k+2) (Nat.le_refl _) hlt2 (acc++[c2]) (by rw [eL];omega)
      rwa [eL] at this
     have want:∀ z:Oq (List UInt8×Nat),qWant b k0 o0 at0 s0 bd r d ts at1 (acc++[c2]) (k+2) z=qWant b k0 o0 at0 s0 bd r d ts at1 acc k (z.map λx=>(c2::x.1,x.2+2)):=λz=>by
      cases z with
      |none=>rfl
      |some y =>simp only [qWant,x18q,y12q,List.singleton_append];rw [show k+2+y.2=k+(y.2+2) by omega]
     by_cases f34:c2=34
     ·obtain ⟨x,hx,hy⟩:=step (.inl f34)
      have y2:((((c2.toNat:Nat):Int) != (34:Int))==true)=false:=by rw [bne,c34];simp [f34]
      refine ⟨x,q18h ?_,?_⟩
      ·simp only [q18m,q1kp,zt,wI,p0,aL,dQ,zu,gL,dL,wI,p0,aL,dQ,q8c,qm1,x25q,x26q,q3u,apd_5,e1,decide_true,x20q,show (0:Int)<=(k:Int) by omega,show (0:Int)<=((k+1:Nat):Int) by omega,x3q,hlt,hlt2,x4q,hc,hd,n34,c34,y92,c92,x1q,x21q,e2,e3,e4,y2,x9q,x8q,x13q,g1,g2,x17q,x23q,x19q,qpk,hx]
      ·rw [hy,want];dsimp only;rw [if_pos (Or.inl f34)]
     have y2:((((c2.toNat:Nat):Int) != (34:Int))==true)=true:=by rw [bne,c34];simp [f34]
     by_cases f92:c2=92
     ·obtain ⟨x,hx,hy⟩:=step (.inr f92)
      have y3:(((c2.toNat:Nat):Int) != (92:Int))=false:=by rw [bne,c92];simp [f92]
      refine ⟨x,q18h ?_,?_⟩
      ·simp only [q18m,q1kp,zt,wI,p0,aL,dQ,zu,gL,dL,wI,p0,aL,dQ,q8c,qm1,x25q,x26q,q3u,apd_5,e1,decide_true,x20q,show (0:Int)<=(k:Int) by omega,show (0:Int)<=((k+1:Nat):Int) by omega,x3q,hlt,hlt2,x4q,hc,hd,n34,c34,y92,c92,x1q,x21q,e2,e3,e4,y2,y3,x9q,x8q,x13q,g1,g2,x17q,x23q,x19q,qpk,hx]
      ·rw [hy,want];dsimp only;rw [if_pos (Or.inr f92)]
     have y3:(((c2.toNat:Nat):Int) != (92:Int))=true:=by rw [bne,c92];simp [f92]
     refine ⟨.inl ((),(5,at0,noTx),b,at1,k0,o0,s0,bd,r,d,ts),q18h ?_,?_⟩
     ·simp only [q18m,q1kp,zt,wI,p0,aL,dQ,zu,gL,dL,wI,p0,aL,dQ,q8c,qm1,x25q,x26q,q3u,apd_5,e1,decide_true,x20q,show (0:Int)<=(k:Int) by omega,show (0:Int)<=((k+1:Nat):Int) by omega,x3q,hlt,hlt2,x4q,hc,hd,n34,c34,y92,c92,x1q,x21q,e2,e3,e4,y2,y3,x19q]
     ·dsimp only;rw [if_neg (by simp [f34,f92])];rfl
    ·have e5:k+1=b.size:=by omega
     have e4:(((k+1:Nat):Int)==((b.size:Nat):Int))=true:=by simp [e5]
     have e:b.data.toList.drop (k+1)=[]:=y16q (by rw [qrq];omega)
     refine ⟨.inl ((),(5,at0,noTx),b,at1,k0,o0,s0,bd,r,d,ts),q18h ?_,?_⟩
     ·simp only [q18m,q1kp,zt,wI,p0,aL,dQ,zu,gL,dL,wI,p0,aL,dQ,q8c,qm1,x25q,x26q,q3u,apd_5,e1,decide_true,x20q,show (0:Int)<=(k:Int) by omega,x3q,hlt,x4q,hc,n34,c34,y92,c92,x1q,x21q,e2,e4,show (true==false)=false from rfl]
     ·rw [e];rfl
   ·have n92:decide (c=92)=false:=by simp [h92]
    obtain ⟨x,hx,hy⟩:=ih (b.size - (k+1)) (by omega) (k+1) (Nat.le_refl _) hlt (acc++[c]) (by rw [eL];omega)
    rw [eL] at hx;refine ⟨x,q18h ?_,?_⟩
    ·simp only [q18m,q1kp,zt,wI,p0,aL,dQ,zu,gL,dL,wI,p0,aL,dQ,q8c,qm1,x25q,x26q,q3u,apd_5,e1,decide_true,x20q,show (0:Int)<=(k:Int) by omega,x3q,hlt,x4q,hc,n34,c34,n92,c92,x1q,x21q,e2,x9q,x8q,x13q,g1,g2,x17q,x23q,x19q,qpk,hx]
    ·rw [hy,if_neg h34,if_neg h92]
     cases hq:strq (b.data.toList.drop (k+1)) with
     |none=>rfl
     |some y =>simp only [qWant,x18q,y12q,List.singleton_append];rw [show k+1+y.2=k+(y.2+1) by omega]
  ·have hk:k=b.size:=by omega
   subst hk;have e:b.data.toList.drop b.size=[]:=y16q (by rw [qrq];omega)
   have e1:¬ ((b.size:Int)<(b.size:Int)):=by omega
   refine ⟨.inr (((),(),(),acc.length,(b.size:Int),false),(b,at1,k0,o0,s0,bd,r,d,ts),(q1,q2,q3),(1,at0,noTx),intz acc),q18h ?_,?_⟩
   ·simp only [q18m,q1kp,zt,wI,p0,aL,dQ,zu,gL,dL,wI,p0,aL,dQ,q8c,qm1,x25q,x26q,q3u,apd_5,e1,decide_false,x1q,x21q,x20q]
   ·rw [e];rfl
theorem q102 (k:Nat) (hk:k<b.size):∃ y:(Int×Int×BA)×Pst,q18c b (k:Int) k0 o0 s0 bd r d ts=some (y.1,y) /\
  y=qWant b k0 o0 (k:Int) s0 bd r d ts (k:Int) [] (k+1) (strq (b.data.toList.drop (k+1))):=by
 have e2:IntKind.i64.wrap ((k:Int)+1)=((k+1:Nat):Int):=q1jr hk (by omega)
 obtain ⟨x,hx,hy⟩:=qzx b hb k0 o0 (k:Int) s0 bd r d ts 0 0 noTx (k:Int) (b.size - (k+1)) (k+1) (Nat.le_refl _) hk [] (Nat.zero_le _);have e0:qbt.decL []=intz []:=rfl
 refine ⟨_,q18e ?_,hy⟩;simp only [q18q,wI,e2,e0];rw [show q18f 0 ((k+1:Nat):Int) b (k:Int) k0 o0 s0 bd r d ts 0 0 noTx 1 (k:Int) noTx (intz [])=some x from hx,y15q]
 cases x <;> rfl
theorem q17 (n:Nat) (hn:n<=b.size):q15z b (n:Int) k0 o0 s0 bd r d ts=some ((),((),(b,(((n+wsN (b.data.toList.drop n)+(lexT (b.data.toList.drop (n+wsN (b.data.toList.drop n)))).2:Nat):Int),
  (((lexT (b.data.toList.drop (n+wsN (b.data.toList.drop n)))).1.1:Nat):Int),((n+wsN (b.data.toList.drop n):Nat):Int),baL (lexT (b.data.toList.drop (n+wsN (b.data.toList.drop n)))).1.2,bd,r,d,ts)))):=by
 have h0:=q1d1 b hb k0 o0 s0 bd r d ts (b.size - n) n (by omega)
 have hw:n+wsN (b.data.toList.drop n)<=b.size:=by have:=wsN_le (b.data.toList.drop n);rw [y35q,qrq] at this;omega
 generalize hp:n+wsN (b.data.toList.drop n)=p at *;refine q161 ?_;simp only [q16j,wI,p0,q8c,qm1,h0,x0q];rcases y30q p b.size with hlt|hge
 ·have e1:(((p:Nat):Int)==((b.size:Nat):Int))=false:=by simp;omega
  have e2:IntKind.i64.wrap ((p:Int)+1)=((p+1:Nat):Int):=q1jr hlt (by omega)
  have c34:∀ c:UInt8,(((c.toNat:Nat):Int)==(34:Int))=decide (c=34):=λc=>c_eq c 34 (by decide)
  simp only [e1,x1q,x21q,decide_true,x3q,show (0:Int)<=(p:Int) by omega,hlt,x4q,x20q,c34,q1d5,qbe,x0q,e2]
  obtain ⟨y,hy,hv⟩:=q102 b hb k0 o0 s0 bd r d ts p hlt;have hr:=λkind:Nat=>q1jh b hb k0 o0 s0 bd r d ts (p:Int) kind (b.size - (p+1)) (p+1) (by omega)
  have hr2:=hr 2;have hr3:=hr 3
  rw [show (((2:Nat):Int))=2 from rfl,show runB 2=smallB from funext run2] at hr2
  rw [show (((3:Nat):Int))=3 from rfl,show runB 3=digitB from funext run3] at hr3
  have hdr:=qap b hlt;have hle:∀ q:UInt8->Bool,p+1+((b.data.toList.drop (p+1)).takeWhile q).length<=b.size:=λq=>by have:=q1hi q (b.data.toList.drop (p+1));rw [y35q,qrq] at this;omega
  have hex:∀ q:UInt8->Bool,b.extract p (p+1+((b.data.toList.drop (p+1)).takeWhile q).length)=baL (b.data.getD p 0::(b.data.toList.drop (p+1)).takeWhile q):=λq=>by rw [qi3,hdr,show p+1+((b.data.toList.drop (p+1)).takeWhile q).length - p=((b.data.toList.drop (p+1)).takeWhile q).length+1 by omega,List.take_succ_cons,q1hn]
  have hex1:b.extract p (p+1)=baL [b.data.getD p 0]:=by rw [qi3,hdr,show p+1 - p=1 by omega];rfl
  rw [hdr];generalize hc:b.data.getD p 0=c at *;by_cases h34:c=34
  ·rw [if_pos (by simp [h34]),hy,y15q,hv]
   rw [h34];cases hq:strq (b.data.toList.drop (p+1)) with
   |none=>simp only [lexT,hq,x20q,qWant,Nat.add_zero];rfl
   |some z =>
    simp only [lexT,hq,x20q,qWant,y14q];rw [show p+1+z.2=p+(z.2+1) by omega]
    rfl
  ·rw [if_neg (by simp [h34])]
   cases hl:letterB c with
   |true =>
    simp only [hr2,x0q,x20q,show ∀ n:Nat,(0:Int)<=(n:Int) from λn=>Int.natCast_nonneg n,decide_true,Bool.true_and,x3q,Int.ofNat_le,hle,hex,show p<=p+1+((b.data.toList.drop (p+1)).takeWhile smallB).length by omega,show (true==false)=false from rfl,x1q,x21q,lexT,h34,hl]
    rw [show p+1+((b.data.toList.drop (p+1)).takeWhile smallB).length=p+(((b.data.toList.drop (p+1)).takeWhile smallB).length+1) by omega]
    rfl
   |false =>
    cases hd:digitB c with
    |true =>
     simp only [hr3,x0q,x20q,show ∀ n:Nat,(0:Int)<=(n:Int) from λn=>Int.natCast_nonneg n,decide_true,Bool.true_and,x3q,Int.ofNat_le,hle,hex,show p<=p+1+((b.data.toList.drop (p+1)).takeWhile digitB).length by omega,show (false==false)=true from rfl,x1q,x21q,lexT,h34,hl,hd]
     rw [show p+1+((b.data.toList.drop (p+1)).takeWhile digitB).length=p+(((b.data.toList.drop (p+1)).takeWhile digitB).length+1) by omega]
     rfl
    |false =>
     simp only [x20q,show ∀ n:Nat,(0:Int)<=(n:Int) from λn=>Int.natCast_nonneg n,decide_true,Bool.true_and,Int.ofNat_le,show p+1<=b.size from hlt,hex1,show p<=p+1 by omega,show (false==false)=true from rfl,x1q,x21q,lexT,h34,hl,hd]
     rfl
 ·have hp:p=b.size:=by omega
  subst hp;have e:b.data.toList.drop b.size=[]:=y16q (by rw [qrq];omega)
  rw [e];simp [lexT,baL]
end
end Go.Proofs.YtmlcmoaonaomfaaGreatDoor
namespace Go.Proofs.YtmlcmoaonaomfaaGreatDoor
open Go.RowKit
def At (b:BA) (n:Nat) (x:Tok) (R:List Tok):Prop:=n<=b.size/\(R=if endK x.k=true then [] else toksF (b.data.toList.drop n) n)/\Good (x::R)
abbrev stP (b:BA) (n:Nat) (x:Tok) (bd:Bool) (r d ts:Int):Pst:=(b,((n:Nat):Int),((x.k:Nat):Int),((x.o:Nat):Int),baL x.s,bd,r,d,ts)
section
variable {b:BA} (hb:b.size<=4000)
include hb
theorem q16 {n:Nat} (hn:n<=b.size) (k0 o0:Int) (s0:BA) (bd:Bool) (r d ts:Int) :
  ∃ m y R,toksF (b.data.toList.drop n) n=y::R/\At b m y R/\q15z b (n:Int) k0 o0 s0 bd r d ts=some ((),(),stP b m y bd r d ts):=by
 have h:=q17 b hb k0 o0 s0 bd r d ts n hn;have hG:=qm9 4000 (b.data.toList.drop n) n (by rw [y35q,qrq];omega) (Nat.le_refl _)
 rw [q1ib] at hG ⊢;have h1:=qrv ((b.data.toList.drop n).drop (wsN (b.data.toList.drop n)))
 have h2:=wsN_le (b.data.toList.drop n);have h3:(b.data.toList.drop n).length=b.size - n:=by rw [y35q,qrq]
 rw [y35q,h3] at h1;rw [h3] at h2;simp only [List.drop_drop] at h1 hG ⊢;generalize wsN (b.data.toList.drop n)=p at *;refine ⟨n+p+(lexT (b.data.toList.drop (n+p))).2,_,_,rfl,⟨by omega,?_,hG⟩,h⟩
 dsimp only;rw [Nat.add_assoc n p]
theorem adv_at {n:Nat} {x:Tok} {R:List Tok} (h:At b n x R) (hk:endK x.k=false) (k0 o0:Int) (s0:BA) (bd:Bool) (r d ts:Int) :
  ∃ m y R',R=y::R'/\At b m y R'/\q15z b (n:Int) k0 o0 s0 bd r d ts=some ((),(),stP b m y bd r d ts):=by
 obtain ⟨h1,h2,_⟩:=h;rw [hk,if_neg (by simp)] at h2
 subst h2;exact q16 hb h1 k0 o0 s0 bd r d ts
theorem qq2 {n:Nat} {x:Tok} {R:List Tok} (h:At b n x R) {k:Nat} (hk:endK k=false) {w:List UInt8} (ht:isT k w (x::R)=true) (r d ts:Int) :
  ∃ m y R',R=y::R'/\At b m y R'/\q16y (k:Int) (baL w) b (n:Int) (x.k:Int) (x.o:Int) (baL x.s) false r d ts=some (true,true,stP b m y false r d ts):=by
 simp only [isT,x6q,beq_iff_eq] at ht;obtain ⟨h1,h2⟩:=ht;obtain ⟨m,y,R',g1,g2,g3⟩:=adv_at hb h (by rw [h1];exact hk) (x.k:Int) (x.o:Int) (baL x.s) false r d ts
 refine ⟨m,y,R',g1,g2,q170 ?_⟩;have e2:(x.s==w)=true:=by simp [h2]
 have e1:(((x.k:Nat):Int) != ((k:Nat):Int))=false:=by simp [h1]
 simp only [q174,q8c,e1,beq_ba,e2,g3,x0q,x19q,x15q,x1q,x21q,x20q]
theorem q1ho {n:Nat} {x:Tok} {R:List Tok} (h:At b n x R) {k:Nat} (hk:endK k=false) (hx:x.k=k) (r d ts:Int) :
  ∃ m y R',R=y::R'/\At b m y R'/\q19c (k:Int) b (n:Int) (x.k:Int) (x.o:Int) (baL x.s) false r d ts=some (baL x.s,baL x.s,stP b m y false r d ts):=by
 obtain ⟨m,y,R',g1,g2,g3⟩:=adv_at hb h (by rw [hx];exact hk) (x.k:Int) (x.o:Int) (baL x.s) false r d ts
 refine ⟨m,y,R',g1,g2,q19e ?_⟩;have e1:(((x.k:Nat):Int) != ((k:Nat):Int))=false:=by simp [hx]
 simp only [q19i,q8c,e1,g3,x0q,x19q,x1q,x21q,x20q]
omit hb
theorem is_no {n:Nat} {x:Tok} {R:List Tok} {k:Nat} {w:List UInt8} (ht:isT k w (x::R)=false) (r d ts:Int) :
  q16y (k:Int) (baL w) b (n:Int) (x.k:Int) (x.o:Int) (baL x.s) false r d ts=some (false,false,stP b n x false r d ts):=by
 refine q170 ?_;simp only [q174,q8c,beq_ba,x19q,x20q];by_cases h1:x.k=k
 ·have e1:(((x.k:Nat):Int) != ((k:Nat):Int))=false:=by simp [h1]
  have e2:(x.s==w)=false:=by simp only [isT,h1,x19q,Bool.true_and] at ht;exact ht
  simp only [e1,e2,x19q,x11q,x20q]
 ·have e1:(((x.k:Nat):Int) != ((k:Nat):Int))=true:=by simp;omega
  simp only [e1,show (true==false)=false from rfl,x1q,x21q]
theorem q1hm {n:Nat} {x:Tok} {k:Nat} (hx:x.k≠k) (r d ts:Int) :
  q19c (k:Int) b (n:Int) (x.k:Int) (x.o:Int) (baL x.s) false r d ts=some (noTx,noTx,stP b n x true r d ts):=by
 refine q19e ?_;have e1:(((x.k:Nat):Int) != ((k:Nat):Int))=true:=by simp;omega
 simp only [q19i,q8c,e1,x19q,x20q]
end
theorem qq1 (k:Int) (w:BA) (b:BA) (a c o:Int) (s:BA) (r d ts:Int):q16y k w b a c o s true r d ts=some (false,false,b,a,c,o,s,true,r,d,ts):=by refine q170 ?_;simp only [q174,q8c,show (true==false)=false from rfl,x1q,x21q]
theorem q1hk (k:Int) (b:BA) (a c o:Int) (s:BA) (r d ts:Int):q19c k b a c o s true r d ts=some (noTx,noTx,b,a,c,o,s,true,r,d,ts):=by refine q19e ?_;simp only [q19i,q8c,show (true==false)=false from rfl,x1q,x21q]
theorem nvL_eq (s:List UInt8):nvL s=numV s:=rfl
section
variable {b:BA} (hb:b.size<=4000)
include hb
theorem qul {n:Nat} {x:Tok} {R:List Tok} (h:At b n x R) {w:List UInt8} (ht:isT 4 w (x::R)=true) (r d ts:Int) :
  ∃ m y R',R=y::R'/\At b m y R'/\q17y (baL w) b (n:Int) (x.k:Int) (x.o:Int) (baL x.s) false r d ts=some ((),(),stP b m y false r d ts):=by
 obtain ⟨m,y,R',g1,g2,g3⟩:=qq2 hb h (k:=4) rfl ht r d ts;have g3:q16y 4 (baL w) b (n:Int) (x.k:Int) (x.o:Int) (baL x.s) false r d ts=_:=g3
 refine ⟨m,y,R',g1,g2,q180 ?_⟩;simp only [q184,q8c,g3,x0q,x15q,x1q,x21q]
omit hb
theorem quk {n:Nat} {x:Tok} {R:List Tok} {w:List UInt8} (ht:isT 4 w (x::R)=false) (r d ts:Int) :
  q17y (baL w) b (n:Int) (x.k:Int) (x.o:Int) (baL x.s) false r d ts=some ((),(),stP b n x true r d ts):=by
 have g3:=is_no (b:=b) (n:=n) ht r d ts;have g3:q16y 4 (baL w) b (n:Int) (x.k:Int) (x.o:Int) (baL x.s) false r d ts=_:=g3
 refine q180 ?_;simp only [q184,q8c,g3,x0q,x11q,x20q]
theorem quj (w:BA) (b:BA) (a c o:Int) (s:BA) (r d ts:Int):q17y w b a c o s true r d ts=some ((),(),b,a,c,o,s,true,r,d,ts):=by refine q180 ?_;simp only [q184,q8c,qq1,x0q,x11q,x20q]
theorem qv7 (s:List UInt8) (hs:s.length<=4000):∃ v ok,numP (baL s) 9999999=some (v,ok):=by
 unfold numP;rw [if_pos ⟨by rw [q5i];omega,by omega⟩]
 split
 ·exact ⟨_,_,rfl⟩
 ·exact ⟨_,_,rfl⟩
theorem qv8 {s:List UInt8} (hs:s.length<=4000) (h:numS s):numP (baL s) 9999999=some (if numOk s=true then (((numV s:Nat):Int),true) else (0,false)):=by
 unfold numP;rw [if_pos ⟨by rw [q5i];omega,by omega⟩,q5h,nvL_eq]
 congr 1;have:=num_ok h
 by_cases h1:numOk s=true
 ·have h2:=this.2 h1
  rw [if_pos h1,if_pos ⟨h2.1,by omega⟩]
 ·rw [if_neg h1,if_neg (λh2=>h1 (this.1 ⟨h2.1,by omega⟩))]
include hb
theorem num_s {n:Nat} {x:Tok} {R:List Tok} (h:At b n x R) (r d ts:Int) :
  match sNum (x::R) with
  |.inr y=>∃ m z R',y.2=z::R'/\At b m z R'/\q185 b (n:Int) (x.k:Int) (x.o:Int) (baL x.s) false r d ts=some ((y.1:Int),(y.1:Int),stP b m z false r d ts)
  |.inl o=>o=x.o/\q185 b (n:Int) (x.k:Int) (x.o:Int) (baL x.s) false r d ts=some (0,0,stP b n x true r d ts):=by
 have hs:=h.2.2.2.1;simp only [sNum];by_cases hk:x.k=3
 ·have hn:=h.2.2.1 hk
  have e:((((x.k:Nat):Int) != 3)==false)=true:=by simp [hk]
  have hp:=qv8 hs hn;by_cases ho:numOk x.s=true
  ·rw [if_pos ho] at hp
   rw [if_pos ⟨hk,ho⟩];obtain ⟨m,z,R',g1,g2,g3⟩:=q1ho hb h (k:=3) rfl hk r d ts;have g3:q19c 3 b (n:Int) (x.k:Int) (x.o:Int) (baL x.s) false r d ts=_:=g3
   refine ⟨m,z,R',g1,g2,q187 ?_⟩;simp only [q18b,q8c,hp,x0q,e,x20q,x15q,x1q,x21q,g3]
  ·rw [if_neg ho] at hp
   rw [if_neg (λe=>ho e.2)];refine ⟨rfl,q187 ?_⟩;simp only [q18b,q8c,hp,x0q,e,x20q,x11q]
 ·obtain ⟨v,ok,hp⟩:=qv7 x.s hs
  rw [if_neg (λe=>hk e.1)];have e:((((x.k:Nat):Int) != 3)==false)=false:=by simp;omega
  refine ⟨rfl,q187 ?_⟩;simp only [q18b,q8c,hp,x0q,e,x1q,x21q]
end
theorem qt6:q13q=some (baL wIs,baL wContains,baL wLike):=q13p rfl
section
variable (b:BA) (k1:Int) (nt:Nat) (nm:BA) (pz0:Int) (tx0:BA) (n0:Int) (T:List S35)
abbrev mR (st:Pst) (p:Int) (tx:BA):Unit×(Unit×Pst×(Int×Nat×BA×Int×BA×Int)×List S35):=((),(),st,(k1,nt,nm,p,tx,n0),T)
abbrev L1o:=((Unit×Pst×(Int×Nat×BA×Int×BA×Int)×List S35)⊕((Unit×Unit×(BA×BA×BA)×Int×Bool)×Pst×(Int×Nat×BA×Int×BA×Int)×List S35))
theorem ml_3 (a c o:Int) (s:BA) (bd:Bool) (r d ts:Int):q17m (baL wIs) (baL wContains) (baL wLike) 3 b a c o s bd r d ts k1 nt nm pz0 tx0 n0 T=some (.inr (((),(),(baL wIs,baL wContains,baL wLike),3,false),(b,a,c,o,s,bd,r,d,ts),(k1,nt,nm,pz0,tx0,n0),T)):=by refine q17o ?_;simp only [q17t,gL,dL,wI,p0,q8c,qm1,x25q,x26q,show ¬ (3:Int)<3 by omega,decide_false,x1q,x21q,x20q]
theorem qub {k:Nat} (hk:k<3) {a c o:Int} {s:BA} {bd:Bool} {r d ts:Int} {w:List UInt8} (hw:[baL wIs,baL wContains,baL wLike].getD k ByteArray.empty=baL w)
  (hi:q16y 2 (baL w) b a c o s bd r d ts=some (false,false,b,a,c,o,s,bd,r,d,ts)) {z:L1o}
  (hn:q17m (baL wIs) (baL wContains) (baL wLike) ((k+1:Nat):Int) b a c o s bd r d ts k1 nt nm pz0 tx0 n0 T=some z) :
  q17m (baL wIs) (baL wContains) (baL wLike) (k:Int) b a c o s bd r d ts k1 nt nm pz0 tx0 n0 T=some z:=by
 have w1:IntKind.i64.wrap ((k:Int)+1)=((k+1:Nat):Int):=q1jr (n:=10) (by omega) (by omega)
 refine q17o ?_;simp only [q17t,gL,dL,wI,p0,q8c,qm1,x25q,x26q,show (k:Int)<3 by omega,show (k:Int)<((3:Nat):Int) by omega,show (0:Int)<=(k:Int) by omega,decide_true,x3q,x9q,x8q,x13q,Nat.reduceAdd,hk,x4q,x20q,hw,hi,x0q,x1q,x21q,w1,hn]
theorem ml_yes {k:Nat} (hk:k<3) {a c o:Int} {s:BA} {bd:Bool} {r d ts:Int} {w:List UInt8} (hw:[baL wIs,baL wContains,baL wLike].getD k ByteArray.empty=baL w)
  {a' c' o':Int} {s':BA} {bd':Bool} {r' d' ts':Int} (hi:q16y 2 (baL w) b a c o s bd r d ts=some (true,true,b,a',c',o',s',bd',r',d',ts'))
  {v:BA} {st:Pst} (ht:q19c 1 b a' c' o' s' bd' r' d' ts'=some (v,v,st)) :
  q17m (baL wIs) (baL wContains) (baL wLike) (k:Int) b a c o s bd r d ts k1 nt nm pz0 tx0 n0 T=some (.inl ((),st,(k1,nt,nm,((k+1:Nat):Int),v,n0),T)):=by
 have w1:IntKind.i64.wrap ((k:Int)+1)=((k+1:Nat):Int):=q1jr (n:=10) (by omega) (by omega)
 refine q17o ?_;simp only [q17t,gL,dL,wI,p0,q8c,qm1,x25q,x26q,show (k:Int)<3 by omega,show (k:Int)<((3:Nat):Int) by omega,show (0:Int)<=(k:Int) by omega,decide_true,x3q,x9q,x8q,x13q,Nat.reduceAdd,hk,x4q,x20q,hw,hi,x0q,w1,ht]
theorem qt0 {a c o:Int} {s:BA} {bd:Bool} {r d ts:Int} {st:Pst} {p:Int} {tx:BA} (h:q17m (baL wIs) (baL wContains) (baL wLike) 0 b a c o s bd r d ts k1 nt nm pz0 tx0 n0 T=some (.inl ((),st,(k1,nt,nm,p,tx,n0),T))) :
  q17j b a c o s bd r d ts k1 nt nm pz0 tx0 n0 T=some (mR k1 nt nm n0 T st p tx):=by
 refine q17l ?_;simp only [q17x,gL,dL,qm1,x25q,x26q,qt6,x0q,x20q,h,Sum.elim_inl]
theorem qt1 {a c o:Int} {s:BA} {bd:Bool} {r d ts:Int} (h:q17m (baL wIs) (baL wContains) (baL wLike) 0 b a c o s bd r d ts k1 nt nm pz0 tx0 n0 T=some (.inr (((),(),(baL wIs,baL wContains,baL wLike),3,false),(b,a,c,o,s,bd,r,d,ts),(k1,nt,nm,pz0,tx0,n0),T))) :
  q17j b a c o s bd r d ts k1 nt nm pz0 tx0 n0 T=some (mR k1 nt nm n0 T (b,a,c,o,s,true,r,d,ts) pz0 tx0):=by
 refine q17l ?_;simp only [q17x,gL,dL,qm1,x25q,x26q,qt6,x0q,x20q,h,Sum.elim_inr]
theorem qsz (a c o:Int) (s:BA) (r d ts:Int):q17j b a c o s true r d ts k1 nt nm pz0 tx0 n0 T=some (mR k1 nt nm n0 T (b,a,c,o,s,true,r,d,ts) pz0 tx0) :=
 qt1 b k1 nt nm pz0 tx0 n0 T (qub b k1 nt nm pz0 tx0 n0 T (k:=0) (by omega) (w:=wIs) rfl (qq1 _ _ _ _ _ _ _ _ _ _) (qub b k1 nt nm pz0 tx0 n0 T (k:=1) (by omega) (w:=wContains) rfl (qq1 _ _ _ _ _ _ _ _ _ _) (qub b k1 nt nm pz0 tx0 n0 T (k:=2) (by omega) (w:=wLike) rfl (qq1 _ _ _ _ _ _ _ _ _ _) (ml_3 b k1 nt nm pz0 tx0 n0 T a c o s true r d ts))))
variable {b} (hb:b.size<=4000)
include hb
theorem mat_s {n:Nat} {x:Tok} {R:List Tok} (h:At b n x R) (r d ts:Int) :
  match sMatch (x::R) with
  |.inr y=>∃ m z R',y.2=z::R'/\At b m z R'/\q17j b (n:Int) (x.k:Int) (x.o:Int) (baL x.s) false r d ts k1 nt nm pz0 tx0 n0 T=some (mR k1 nt nm n0 T (stP b m z false r d ts) ((y.1.1:Nat):Int) (baL y.1.2))
  |.inl o=>∃ m z p tx,o=z.o/\q17j b (n:Int) (x.k:Int) (x.o:Int) (baL x.s) false r d ts k1 nt nm pz0 tx0 n0 T=some (mR k1 nt nm n0 T (stP b m z true r d ts) p tx):=by
 have hi:∀ w:List UInt8,¬ (x.k=2/\x.s=w)->q16y 2 (baL w) b (n:Int) (x.k:Int) (x.o:Int) (baL x.s) false r d ts=some (false,false,stP b n x false r d ts):=λw hw =>
  is_no (k:=2) (R:=R) (by simp only [isT,y37q,beq_eq_false_iff_ne];by_cases e:x.k=2;exact .inr (λe2=>hw ⟨e,e2⟩);exact .inl e) r d ts
 have l3:=ml_3 b k1 nt nm pz0 tx0 n0 T (n:Int) (x.k:Int) (x.o:Int) (baL x.s) false r d ts;by_cases hk:x.k=2
 case neg =>
  simp only [sMatch];rw [if_neg (λe=>hk e.1)];exact ⟨n,x,_,_,rfl,qt1 b k1 nt nm pz0 tx0 n0 T (qub b k1 nt nm pz0 tx0 n0 T (k:=0) (by omega) (w:=wIs) rfl (hi _ (λe=>hk e.1)) (qub b k1 nt nm pz0 tx0 n0 T (k:=1) (by omega) (w:=wContains) rfl (hi _ (λe=>hk e.1)) (qub b k1 nt nm pz0 tx0 n0 T (k:=2) (by omega) (w:=wLike) rfl (hi _ (λe=>hk e.1)) l3)))⟩
 have key:∀ (k:Nat) (w:List UInt8),x.s=w->matchN w=k+1->(∀ a' c' o' s' bd' r' d' ts' v st,q16y 2 (baL w) b (n:Int) (x.k:Int) (x.o:Int) (baL x.s) false r d ts=some (true,true,b,a',c',o',s',bd',r',d',ts')->q19c 1 b a' c' o' s' bd' r' d' ts'=some (v,v,st) ->
   q17j b (n:Int) (x.k:Int) (x.o:Int) (baL x.s) false r d ts k1 nt nm pz0 tx0 n0 T=some (mR k1 nt nm n0 T st ((k+1:Nat):Int) v)) ->
   (match sMatch (x::R) with
   |.inr y=>∃ m z R',y.2=z::R'/\At b m z R'/\q17j b (n:Int) (x.k:Int) (x.o:Int) (baL x.s) false r d ts k1 nt nm pz0 tx0 n0 T=some (mR k1 nt nm n0 T (stP b m z false r d ts) ((y.1.1:Nat):Int) (baL y.1.2))
   |.inl o=>∃ m z p tx,o=z.o/\q17j b (n:Int) (x.k:Int) (x.o:Int) (baL x.s) false r d ts k1 nt nm pz0 tx0 n0 T=some (mR k1 nt nm n0 T (stP b m z true r d ts) p tx)):=by
  intro k w hw hm hgo;subst hw;obtain ⟨m,y,R',g1,g2,g3⟩:=qq2 hb h (k:=2) rfl (w:=x.s) (by simp [isT,hk]) r d ts
  have g3:q16y 2 (baL x.s) b (n:Int) (x.k:Int) (x.o:Int) (baL x.s) false r d ts=_:=g3;subst g1;simp only [sMatch,hm,sTake];rw [if_pos ⟨hk,by omega⟩]
  by_cases hy:y.k=1
  ·obtain ⟨m2,z,R2,q1,q2,q3⟩:=q1ho hb g2 (k:=1) rfl hy r d ts
   have q3:q19c 1 b (m:Int) (y.k:Int) (y.o:Int) (baL y.s) false r d ts=_:=q3;rw [if_pos hy];dsimp only [thn];exact ⟨m2,z,R2,q1,q2,hgo _ _ _ _ _ _ _ _ _ _ g3 q3⟩
  ·have q3:=q1hm (b:=b) (n:=m) (k:=1) hy r d ts
   have q3:q19c 1 b (m:Int) (y.k:Int) (y.o:Int) (baL y.s) false r d ts=_:=q3;rw [if_neg hy];dsimp only [thn];exact ⟨m,y,_,_,rfl,hgo _ _ _ _ _ _ _ _ _ _ g3 q3⟩
 by_cases h1:x.s=wIs
 ·exact key 0 wIs h1 rfl λa' c' o' s' bd' r' d' ts' v st q1 q2=>qt0 b k1 nt nm pz0 tx0 n0 T (ml_yes b k1 nt nm pz0 tx0 n0 T (k:=0) (by omega) (w:=wIs) rfl q1 q2)
 have i1:=hi wIs (λe=>h1 e.2);by_cases h2:x.s=wContains
 ·exact key 1 wContains h2 rfl λa' c' o' s' bd' r' d' ts' v st q1 q2=>qt0 b k1 nt nm pz0 tx0 n0 T (qub b k1 nt nm pz0 tx0 n0 T (k:=0) (by omega) (w:=wIs) rfl i1 (ml_yes b k1 nt nm pz0 tx0 n0 T (k:=1) (by omega) (w:=wContains) rfl q1 q2))
 have i2:=hi wContains (λe=>h2 e.2);by_cases h3:x.s=wLike
 ·exact key 2 wLike h3 rfl λa' c' o' s' bd' r' d' ts' v st q1 q2=>qt0 b k1 nt nm pz0 tx0 n0 T (qub b k1 nt nm pz0 tx0 n0 T (k:=0) (by omega) (w:=wIs) rfl i1 (qub b k1 nt nm pz0 tx0 n0 T (k:=1) (by omega) (w:=wContains) rfl i2 (ml_yes b k1 nt nm pz0 tx0 n0 T (k:=2) (by omega) (w:=wLike) rfl q1 q2)))
 have i3:=hi wLike (λe=>h3 e.2);have hm:matchN x.s=0:=by simp [matchN,h1,h2,h3]
 simp only [sMatch];rw [if_neg (λe=>e.2 hm)];exact ⟨n,x,_,_,rfl,qt1 b k1 nt nm pz0 tx0 n0 T (qub b k1 nt nm pz0 tx0 n0 T (k:=0) (by omega) (w:=wIs) rfl i1 (qub b k1 nt nm pz0 tx0 n0 T (k:=1) (by omega) (w:=wContains) rfl i2 (qub b k1 nt nm pz0 tx0 n0 T (k:=2) (by omega) (w:=wLike) rfl i3 l3)))⟩
end
end Go.Proofs.YtmlcmoaonaomfaaGreatDoor
