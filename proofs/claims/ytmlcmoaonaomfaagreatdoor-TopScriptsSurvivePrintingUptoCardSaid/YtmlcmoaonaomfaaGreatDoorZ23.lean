/- The parser reads rules. -/
import Derived.Test.YtmlcmoaonaomfaaGreatDoorZ22
namespace Go.Proofs.YtmlcmoaonaomfaaGreatDoor
open Go.RowKit
def ruI (t:S35) (l l2:List S38):S38:=⟨1,t.Kind,t.Tests,t.Name,t.Pattern,t.Text,t.N,l,l2,0,noTx,noTx,0⟩
def ruS (nm tx:BA):S38:=⟨3,0,[],noTx,0,noTx,0,[],[],0,nm,tx,0⟩
def ruT:S38:=⟨4,0,[],noTx,0,noTx,0,[],[],0,noTx,noTx,0⟩
def ru0:S38:=⟨0,0,[],noTx,0,noTx,0,[],[],0,noTx,noTx,0⟩
theorem blk1_s (b:BA) (a c o:Int) (s:BA) (bd:Bool) (r d ts:Int):q16k b a c o s bd r d ts=some ((),(),(),b,a,c,o,s,bd,r,IntKind.i64.wrap (d - 1),ts):=q16m rfl
theorem qqp (b:BA) (a c o:Int) (s:BA) (r d ts:Int) (W:List S38):q191 W.length b a c o s true r d ts W=some (((),W.length,false),(b,a,c,o,s,true,r,d,ts),W):=by refine q193 ?_;simp only [q197,zw_t,aL,dQ,gL,dL,q8c,qm1,x25q,x26q,all_38,apd_38,show ((!true)==true)=false from rfl,x1q,x21q,x20q]
theorem q1cm {b:BA} {a c o:Int} {s:BA} {bd:Bool} {r d ts:Int} {st:Pst} {l:List S38} (h:q191 0 b a c o s bd r d ts []=some (((),l.length,false),st,l)):q18y b a c o s bd r d ts=some (l,l,st):=by have e1:qbr.decL []=[]:=rfl;refine q190 ?_;simp only [q19b,gL,dL,qm1,x25q,x26q,e1,h,x0q,x20q]
theorem q82 (b:BA) (a c o:Int) (s:BA) (r ts:Int) (d:Nat) (hd:d<=100):q16r b a c o s true r (d:Int) ts=some ([],[],b,a,c,o,s,true,r,(d:Int),ts):=by
 have w1:IntKind.i64.wrap ((d:Int)+1)=((d+1:Nat):Int):=q1jr (n:=1000) (by omega) (by omega)
 have w2:IntKind.i64.wrap (((d+1:Nat):Int) - 1)=(d:Int):=by rw [q1jq (by omega)];omega
 have hs:=q1cm (qqp b a c o s r ((d+1:Nat):Int) ts []);refine q16t ?_;simp only [q16x,gL,dL,wI,qm1,x25q,x26q,quj,hs,blk1_s,x0q,w1,w2,x20q]
theorem q83 {b:BA} {a c o:Int} {s:BA} {bd:Bool} {r ts:Int} {d:Nat} (hd:d<=100) {a1 c1 o1:Int} {s1:BA} {bd1:Bool} {r1 ts1:Int} {a2 c2 o2:Int} {s2:BA} {bd2:Bool} {r2 ts2:Int} {a3 c3 o3:Int} {s3:BA} {bd3:Bool} {r3 ts3:Int} {l:List S38}
  (h1:q17y (ByteArray.mk (List.toArray [123])) b a c o s bd r (d:Int) ts=some ((),(),b,a1,c1,o1,s1,bd1,r1,(d:Int),ts1))
  (h2:q18y b a1 c1 o1 s1 bd1 r1 ((d+1:Nat):Int) ts1=some (l,l,b,a2,c2,o2,s2,bd2,r2,((d+1:Nat):Int),ts2))
  (h3:q17y (ByteArray.mk (List.toArray [125])) b a2 c2 o2 s2 bd2 r2 ((d+1:Nat):Int) ts2=some ((),(),b,a3,c3,o3,s3,bd3,r3,((d+1:Nat):Int),ts3)) :
  q16r b a c o s bd r (d:Int) ts=some (l,l,b,a3,c3,o3,s3,bd3,r3,(d:Int),ts3):=by
 have w1:IntKind.i64.wrap ((d:Int)+1)=((d+1:Nat):Int):=q1jr (n:=1000) (by omega) (by omega)
 have w2:IntKind.i64.wrap (((d+1:Nat):Int) - 1)=(d:Int):=by rw [q1jq (by omega)];omega
 refine q16t ?_;simp only [q16x,gL,dL,wI,qm1,x25q,x26q,h1,h2,h3,blk1_s,x0q,w1,w2,x20q]
section
variable {b:BA} {a c o:Int} {s:BA} {m d:Nat} (hm:m+1<=100) (hd:d<=8) {a1 c1 o1:Int} {s1:BA} {bd1:Bool} {r1 d1 ts1:Int} {a2 c2 o2:Int} {s2:BA} {bd2:Bool} {r2 d2 ts2:Int} {a3 c3 o3:Int} {s3:BA} {bd3:Bool} {r3 d3 ts3:Int} {a4 c4 o4:Int} {s4:BA} {bd4:Bool} {r4 d4 ts4:Int} {t:S35} {l l2:List S38} {st:Pst}
include hm hd
theorem q11f (hi:q16y 2 (ByteArray.mk (List.toArray [105,102])) b a c o s false ((m+1:Nat):Int) (d:Int) 0=some (true,true,b,a1,c1,o1,s1,bd1,r1,d1,ts1))
  (ht:q19q b a1 c1 o1 s1 bd1 r1 d1 ts1=some (tup t,tup t,b,a2,c2,o2,s2,bd2,r2,d2,ts2)) (hb1:q16r b a2 c2 o2 s2 bd2 r2 d2 ts2=some (l,l,b,a3,c3,o3,s3,bd3,r3,d3,ts3)) (he:q16y 2 (ByteArray.mk (List.toArray [101,108,115,101])) b a3 c3 o3 s3 bd3 r3 d3 ts3=some (false,false,st)) :
  q18r b a c o s false (m:Int) (d:Int) 0=some (tupR (ruI t l []),tupR (ruI t l []),st):=by
 have e0:qbp.decL []=[]:=rfl;have e1:qbr.decL []=[]:=rfl
 have w1:IntKind.i64.wrap ((m:Int)+1)=((m+1:Nat):Int):=q1jr (n:=1000) (by omega) (by omega)
 refine q18t ?_;simp only [q18x,gL,dL,wI,q8c,qm1,x25q,x26q,e0,e1,w1,show ¬ ((m+1:Nat):Int)>100 by omega,show ¬ (d:Int)>8 by omega,decide_false,x19q,x20q,x1q,x21q,hi,ht,hb1,he,x0q]
 rfl
theorem q11g (hi:q16y 2 (ByteArray.mk (List.toArray [105,102])) b a c o s false ((m+1:Nat):Int) (d:Int) 0=some (true,true,b,a1,c1,o1,s1,bd1,r1,d1,ts1))
  (ht:q19q b a1 c1 o1 s1 bd1 r1 d1 ts1=some (tup t,tup t,b,a2,c2,o2,s2,bd2,r2,d2,ts2)) (hb1:q16r b a2 c2 o2 s2 bd2 r2 d2 ts2=some (l,l,b,a3,c3,o3,s3,bd3,r3,d3,ts3)) (he:q16y 2 (ByteArray.mk (List.toArray [101,108,115,101])) b a3 c3 o3 s3 bd3 r3 d3 ts3=some (true,true,b,a4,c4,o4,s4,bd4,r4,d4,ts4))
  (hb2:q16r b a4 c4 o4 s4 bd4 r4 d4 ts4=some (l2,l2,st)) :
  q18r b a c o s false (m:Int) (d:Int) 0=some (tupR (ruI t l l2),tupR (ruI t l l2),st):=by
 have e0:qbp.decL []=[]:=rfl;have e1:qbr.decL []=[]:=rfl
 have w1:IntKind.i64.wrap ((m:Int)+1)=((m+1:Nat):Int):=q1jr (n:=1000) (by omega) (by omega)
 refine q18t ?_;simp only [q18x,gL,dL,wI,q8c,qm1,x25q,x26q,e0,e1,w1,show ¬ ((m+1:Nat):Int)>100 by omega,show ¬ (d:Int)>8 by omega,decide_false,x19q,x20q,x1q,x21q,hi,ht,hb1,he,hb2,x0q]
 rfl
variable {nm tx:BA} (hno:q16y 2 (ByteArray.mk (List.toArray [105,102])) b a c o s false ((m+1:Nat):Int) (d:Int) 0=some (false,false,b,a,c,o,s,false,((m+1:Nat):Int),(d:Int),0))
include hno
theorem q11i (hi:q16y 2 (ByteArray.mk (List.toArray [115,101,116])) b a c o s false ((m+1:Nat):Int) (d:Int) 0=some (true,true,b,a1,c1,o1,s1,bd1,r1,d1,ts1))
  (h1:q19c 2 b a1 c1 o1 s1 bd1 r1 d1 ts1=some (nm,nm,b,a2,c2,o2,s2,bd2,r2,d2,ts2)) (h2:q19c 1 b a2 c2 o2 s2 bd2 r2 d2 ts2=some (tx,tx,b,a3,c3,o3,s3,bd3,r3,d3,ts3)) (h3:q17y (ByteArray.mk (List.toArray [59])) b a3 c3 o3 s3 bd3 r3 d3 ts3=some ((),(),st)) :
  q18r b a c o s false (m:Int) (d:Int) 0=some (tupR (ruS nm tx),tupR (ruS nm tx),st):=by
 have e0:qbp.decL []=[]:=rfl;have e1:qbr.decL []=[]:=rfl
 have w1:IntKind.i64.wrap ((m:Int)+1)=((m+1:Nat):Int):=q1jr (n:=1000) (by omega) (by omega)
 refine q18t ?_;simp only [q18x,gL,dL,wI,q8c,qm1,x25q,x26q,e0,e1,w1,show ¬ ((m+1:Nat):Int)>100 by omega,show ¬ (d:Int)>8 by omega,decide_false,x19q,x20q,x1q,x21q,hno,hi,h1,h2,h3,x0q]
 rfl
variable (hns:q16y 2 (ByteArray.mk (List.toArray [115,101,116])) b a c o s false ((m+1:Nat):Int) (d:Int) 0=some (false,false,b,a,c,o,s,false,((m+1:Nat):Int),(d:Int),0))
include hns
theorem q11j (hi:q16y 2 (ByteArray.mk (List.toArray [115,116,111,112])) b a c o s false ((m+1:Nat):Int) (d:Int) 0=some (true,true,b,a1,c1,o1,s1,bd1,r1,d1,ts1)) (h3:q17y (ByteArray.mk (List.toArray [59])) b a1 c1 o1 s1 bd1 r1 d1 ts1=some ((),(),st)) :
  q18r b a c o s false (m:Int) (d:Int) 0=some (tupR ruT,tupR ruT,st):=by
 have e0:qbp.decL []=[]:=rfl;have e1:qbr.decL []=[]:=rfl
 have w1:IntKind.i64.wrap ((m:Int)+1)=((m+1:Nat):Int):=q1jr (n:=1000) (by omega) (by omega)
 refine q18t ?_;simp only [q18x,gL,dL,wI,q8c,qm1,x25q,x26q,e0,e1,w1,show ¬ ((m+1:Nat):Int)>100 by omega,show ¬ (d:Int)>8 by omega,decide_false,x19q,x20q,x1q,x21q,hno,hns,hi,h3,x0q]
 rfl
theorem q11c {ru:S38} (hi:q16y 2 (ByteArray.mk (List.toArray [115,116,111,112])) b a c o s false ((m+1:Nat):Int) (d:Int) 0=some (false,false,b,a,c,o,s,false,((m+1:Nat):Int),(d:Int),0))
  (h3:q158 b a c o s false ((m+1:Nat):Int) (d:Int) 0=some (tupR ru,tupR ru,st)) :
  q18r b a c o s false (m:Int) (d:Int) 0=some (tupR ru,tupR ru,st):=by
 have w1:IntKind.i64.wrap ((m:Int)+1)=((m+1:Nat):Int):=q1jr (n:=1000) (by omega) (by omega)
 refine q18t ?_;simp only [q18x,gL,dL,wI,q8c,qm1,x25q,x26q,w1,show ¬ ((m+1:Nat):Int)>100 by omega,show ¬ (d:Int)>8 by omega,decide_false,x19q,x20q,x1q,x21q,hno,hns,hi,h3,x0q]
end
theorem q11d (b:BA) (a c o:Int) (s:BA) (m d:Nat) (hm:m<=1000) (h:100<m+1∨8<d):q18r b a c o s false (m:Int) (d:Int) 0=some (tupR ru0,tupR ru0,b,a,c,o,s,true,((m+1:Nat):Int),(d:Int),0):=by
 have e0:qbp.decL []=[]:=rfl;have e1:qbr.decL []=[]:=rfl
 have w1:IntKind.i64.wrap ((m:Int)+1)=((m+1:Nat):Int):=q1jr (n:=2000) (by omega) (by omega)
 refine q18t ?_;by_cases h1:((m+1:Nat):Int)>100
 ·simp only [q18x,gL,dL,wI,q8c,qm1,x25q,x26q,e0,e1,w1,h1,decide_true,show (true==false)=false from rfl,x1q,x21q]
  rfl
 ·simp only [q18x,gL,dL,wI,q8c,qm1,x25q,x26q,e0,e1,w1,h1,decide_false,x19q,x20q,show (d:Int)>8 by omega,decide_true]
  rfl
section
variable (b:BA) (hb:b.size<=4000)
def PLO (d:Nat) (W:List S38) (sp:Nat⊕(List S38×List Tok×Nat)) (l:List S38) (st:Pst):Prop:=match sp with
 |.inr y=>l=W++y.1/\y.2.2<=100/\∃ n z R,y.2.1=z::R/\At b n z R/\st=stP b n z false ((y.2.2:Nat):Int) (d:Int) 0
 |.inl o=>∃ n z r,z.o=o/\st=stP b n z true r (d:Int) 0
def PR (f:Nat):Prop:=∀ (d m n:Nat) (x:Tok) (R:List Tok),At b n x R->d<=9->m<=100->2*(x::R).length+3<=f->(x::R).length<=4001 ->
 ∃ t st,q18r b ((n:Nat):Int) ((x.k:Nat):Int) ((x.o:Nat):Int) (baL x.s) false (m:Int) (d:Int) 0=some (tupR t,tupR t,st)/\PRO b d (sRule f d m (x::R)) t st
def PB (f:Nat):Prop:=∀ (d m n:Nat) (x:Tok) (R:List Tok),At b n x R->d<=8->m<=100->2*(x::R).length+3<=f->(x::R).length<=4001 ->
 ∃ l st,q16r b ((n:Nat):Int) ((x.k:Nat):Int) ((x.o:Nat):Int) (baL x.s) false (m:Int) (d:Int) 0=some (l,l,st)/\PLO b d [] (sBlock f (d+1) m (x::R)) l st
def PS (f:Nat):Prop:=∀ (d m n:Nat) (x:Tok) (R:List Tok) (W:List S38),At b n x R->d<=9->m<=100->2*(x::R).length+4<=f->W.length+(x::R).length<=4001 ->
 ∃ l st,q191 W.length b ((n:Nat):Int) ((x.k:Nat):Int) ((x.o:Nat):Int) (baL x.s) false (m:Int) (d:Int) 0 W=some (((),l.length,false),st,l)/\PLO b d W (sRules f d m (x::R)) l st
include hb
theorem q1hw (f n:Nat) (x:Tok) (R:List Tok) (r dd:Int) (hA:At b n x R) (hf:2*(x::R).length+1<=f) (hl:(x::R).length<=4001) :
  ∃ t st,q19q b ((n:Nat):Int) ((x.k:Nat):Int) ((x.o:Nat):Int) (baL x.s) false r dd 0=some (tup t,tup t,st)/\PO b r dd 0 (sTest f 1 (x::R)) t st:=(pt_all b hb f).1 0 n x R r dd hA (by omega) hf hl
theorem qyd {f:Nat} (ihs:PS b f):PB b (f+1):=by
 intro d m n x R hA hd hm hf hl;simp only [x9q] at hf hl;simp only [sBlock,sNeed];cases hc:isT 4 [123] (x::R) with
 |false =>
  have h1:=quk (b:=b) (n:=n) hc ((m:Nat):Int) (d:Int) 0;have h2:=q1cm (qqp b ((n:Nat):Int) ((x.k:Nat):Int) ((x.o:Nat):Int) (baL x.s) ((m:Nat):Int) ((d+1:Nat):Int) 0 [])
  exact ⟨[],_,q83 (by omega) h1 h2 (quj _ _ _ _ _ _ _ _ _),n,x,_,rfl,rfl⟩
 |true =>
  obtain ⟨n1,y,R',rfl,g2,g3⟩:=qul hb hA hc ((m:Nat):Int) (d:Int) 0;simp only [x9q] at hf hl;obtain ⟨l,st,q1,q2⟩:=ihs (d+1) m n1 y R' [] g2 (by omega) hm (by simp only [x9q];omega) (by simp only [x9q,x8q];omega)
  have q1:=q1cm q1;dsimp only [thn];simp only [x20q,List.tail_cons];cases hs:sRules f (d+1) m (y::R') with
  |inl o =>rw [hs] at q2;obtain ⟨n2,z,r2,z1,rfl⟩:=q2;exact ⟨l,_,q83 (by omega) g3 q1 (quj _ _ _ _ _ _ _ _ _),n2,z,r2,z1,rfl⟩
  |inr w =>
   rw [hs] at q2;obtain ⟨rfl,q3,n2,z,R2,j1,j2,rfl⟩:=q2;dsimp only;rw [j1];cases hc2:isT 4 [125] (z::R2) with
   |false =>have h3:=quk (b:=b) (n:=n2) hc2 ((w.2.2:Nat):Int) ((d+1:Nat):Int) 0;exact ⟨_,_,q83 (by omega) g3 q1 h3,n2,z,_,rfl,rfl⟩
   |true =>obtain ⟨n3,z3,R3,rfl,k2,k3⟩:=qul hb j2 hc2 ((w.2.2:Nat):Int) ((d+1:Nat):Int) 0;exact ⟨_,_,q83 (by omega) g3 q1 k3,rfl,q3,n3,z3,R3,rfl,k2,rfl⟩
theorem qzm {f:Nat} (ihb:PB b f):PR b (f+1):=by
 intro d m n x R hA hd hm hf hl;simp only [x9q] at hf hl;simp only [sRule];by_cases hdeep:100<m+1∨8<d
 ·rw [if_pos (by omega)]
  exact ⟨ru0,_,q11d b _ _ _ _ m d (by omega) hdeep,n,x,_,rfl,rfl⟩
 have hm1:m+1<=100:=by omega
 have hd8:d<=8:=by omega
 have nos:∀ w:List UInt8,¬ (x.k=2/\x.s=w)->q16y 2 (baL w) b ((n:Nat):Int) ((x.k:Nat):Int) ((x.o:Nat):Int) (baL x.s) false ((m+1:Nat):Int) (d:Int) 0=some (false,false,b,((n:Nat):Int),((x.k:Nat):Int),((x.o:Nat):Int),baL x.s,false,((m+1:Nat):Int),(d:Int),0):=λw hw =>
  is_no (k:=2) (R:=R) (by simp only [isT,y37q,beq_eq_false_iff_ne];by_cases e:x.k=2;exact .inr (λe2=>hw ⟨e,e2⟩);exact .inl e) _ _ _
 by_cases hx:x.k=2
 case neg =>
  rw [if_pos (by omega)]
  exact ⟨_,_,q11c hm1 hd8 (nos wIf (λe=>hx e.1)) (nos wSet (λe=>hx e.1)) (nos wStop (λe=>hx e.1)) (qx b (R:=R) (λe=>hx e.1)),n,x,_,rfl,rfl⟩
 rw [if_neg (by omega)]
 by_cases h1:x.s=wIf
 ·rw [if_pos h1]
  obtain ⟨n1,y,R',rfl,g2,g3⟩:=qq2 hb hA (k:=2) rfl (w:=wIf) (by simp [isT,hx,h1]) ((m+1:Nat):Int) (d:Int) 0
  simp only [x9q] at hf hl;obtain ⟨t,st,q1,q2⟩:=q1hw b hb f n1 y R' ((m+1:Nat):Int) (d:Int) g2 (by simp only [x9q];omega) (by simp only [x9q];omega)
  cases hs:sTest f 1 (y::R') with
  |inl o =>rw [hs] at q2;obtain ⟨n2,z,z1,rfl⟩:=q2;exact ⟨_,_,q11f hm1 hd8 g3 q1 (q82 _ _ _ _ _ _ _ d (by omega)) (qq1 _ _ _ _ _ _ _ _ _ _),n2,z,_,z1,rfl⟩
  |inr w =>
   have hlen:=qrp hs;rw [hs] at q2;obtain ⟨rfl,n2,z,R2,j1,j2,rfl⟩:=q2;dsimp only [thn];rw [j1] at hlen ⊢;simp only [x9q] at hlen;obtain ⟨l,st2,k1,k2⟩:=ihb d (m+1) n2 z R2 j2 hd8 hm1 (by simp only [x9q];omega) (by simp only [x9q];omega)
   cases hs2:sBlock f (d+1) (m+1) (z::R2) with
   |inl o =>rw [hs2] at k2;obtain ⟨n3,z3,r3,z4,rfl⟩:=k2;exact ⟨_,_,q11f hm1 hd8 g3 q1 k1 (qq1 _ _ _ _ _ _ _ _ _ _),n3,z3,_,z4,rfl⟩
   |inr v =>
    have hlen2:=qrm hs2;rw [hs2] at k2;obtain ⟨k3,k4,n3,z3,R3,u1,u2,rfl⟩:=k2;have k3:l=v.1:=by simpa using k3
    subst k3;dsimp only;rw [u1] at hlen2 ⊢;simp only [x9q] at hlen2;cases hc:isT 2 wElse (z3::R3) with
    |false =>
     have h5:=is_no (b:=b) (n:=n3) hc ((v.2.2:Nat):Int) (d:Int) 0;rw [if_neg (by simp)]
     exact ⟨_,_,q11f hm1 hd8 g3 q1 k1 h5,rfl,k4,n3,z3,R3,rfl,u2,rfl⟩
    |true =>
     obtain ⟨n4,z4,R4,rfl,p2,p3⟩:=qq2 hb u2 (k:=2) rfl hc ((v.2.2:Nat):Int) (d:Int) 0;rw [if_pos rfl];simp only [x9q] at hlen2;obtain ⟨l2,st5,k5,k6⟩:=ihb d v.2.2 n4 z4 R4 p2 hd8 k4 (by simp only [x9q];omega) (by simp only [x9q];omega)
     simp only [List.tail_cons];cases hs3:sBlock f (d+1) v.2.2 (z4::R4) with
     |inl o =>rw [hs3] at k6;obtain ⟨n5,z5,r5,z6,rfl⟩:=k6;exact ⟨_,_,q11g hm1 hd8 g3 q1 k1 p3 k5,n5,z5,_,z6,rfl⟩
     |inr e =>
      rw [hs3] at k6;obtain ⟨k7,k8,n5,z5,R5,e1,e2,rfl⟩:=k6;have k7:l2=e.1:=by simpa using k7
      subst k7;exact ⟨_,_,q11g hm1 hd8 g3 q1 k1 p3 k5,rfl,k8,n5,z5,R5,e1,e2,rfl⟩
 rw [if_neg h1];have i1:=nos wIf (λe=>h1 e.2)
 by_cases h2:x.s=wSet
 ·rw [if_pos h2]
  obtain ⟨n1,y,R',rfl,g2,g3⟩:=qq2 hb hA (k:=2) rfl (w:=wSet) (by simp [isT,hx,h2]) ((m+1:Nat):Int) (d:Int) 0
  simp only [sTake];by_cases hy:y.k=2
  ·obtain ⟨n2,z,R2,rfl,q2,q3⟩:=q1ho hb g2 (k:=2) rfl hy ((m+1:Nat):Int) (d:Int) 0
   rw [if_pos hy];dsimp only [thn];by_cases hz:z.k=1
   ·obtain ⟨n3,z3,R3,rfl,p2,p3⟩:=q1ho hb q2 (k:=1) rfl hz ((m+1:Nat):Int) (d:Int) 0
    rw [if_pos hz];dsimp only;obtain ⟨st,k1,k2⟩:=qs b hb hm1 p2 rfl (rul 3 t0 [] [] 0 y.s z.s 0) (λst=>q18r b ((n:Nat):Int) ((x.k:Nat):Int) ((x.o:Nat):Int) (baL x.s) false (m:Int) (d:Int) 0=some (tupR (ruS (baL y.s) (baL z.s)),tupR (ruS (baL y.s) (baL z.s)),st)) (λst3 q4=>q11i hm1 hd8 i1 g3 q3 p3 q4);exact ⟨_,st,k1,k2⟩
   ·have p3:=q1hm (b:=b) (n:=n2) (k:=1) hz ((m+1:Nat):Int) (d:Int) 0
    rw [if_neg hz];exact ⟨_,_,q11i hm1 hd8 i1 g3 q3 p3 (quj _ _ _ _ _ _ _ _ _),n2,z,_,rfl,rfl⟩
  ·have q3:=q1hm (b:=b) (n:=n1) (k:=2) hy ((m+1:Nat):Int) (d:Int) 0
   rw [if_neg hy];exact ⟨_,_,q11i hm1 hd8 i1 g3 q3 (q1hk _ _ _ _ _ _ _ _ _) (quj _ _ _ _ _ _ _ _ _),n1,y,_,rfl,rfl⟩
 rw [if_neg h2];have i2:=nos wSet (λe=>h2 e.2)
 by_cases h3:x.s=wStop
 ·rw [if_pos h3]
  obtain ⟨n1,y,R',rfl,g2,g3⟩:=qq2 hb hA (k:=2) rfl (w:=wStop) (by simp [isT,hx,h3]) ((m+1:Nat):Int) (d:Int) 0
  obtain ⟨st,k1,k2⟩:=qs b hb hm1 g2 rfl (rul 4 t0 [] [] 0 [] [] 0) (λst=>q18r b ((n:Nat):Int) ((x.k:Nat):Int) ((x.o:Nat):Int) (baL x.s) false (m:Int) (d:Int) 0=some (tupR ruT,tupR ruT,st)) (λst3 q4=>q11j hm1 hd8 i1 i2 g3 q4);exact ⟨_,st,k1,k2⟩
 rw [if_neg h3];have i3:=nos wStop (λe=>h3 e.2)
 obtain ⟨t,st,k1,k2⟩:=act_s b hb hA hm1 hx;exact ⟨t,st,q11c hm1 hd8 i1 i2 i3 k1,k2⟩
omit hb in
theorem qzo {f:Nat} (ih:PR b f) (ihs:PS b f):PS b (f+1):=by
 intro d m n x R W hA hd hm hf hl;simp only [x9q] at hf hl;simp only [sRules];have hstop:stopB x=true->q191 W.length b ((n:Nat):Int) ((x.k:Nat):Int) ((x.o:Nat):Int) (baL x.s) false (m:Int) (d:Int) 0 W=some (((),W.length,false),(b,((n:Nat):Int),((x.k:Nat):Int),((x.o:Nat):Int),baL x.s,false,(m:Int),(d:Int),0),W):=λh=>by
  refine q193 ?_;simp only [stopB,y29q,beq_iff_eq,x6q] at h;by_cases h0:x.k=0
  ·have e0:((((x.k:Nat):Int) != 0)==true)=false:=by simp [h0]
   simp only [q197,zw_t,aL,dQ,gL,dL,q8c,qm1,x25q,x26q,all_38,apd_38,show ((!false)==true)=true from rfl,e0,x1q,x21q,x20q]
  ·have e0:((((x.k:Nat):Int) != 0)==true)=true:=by simp;omega
   obtain ⟨h4,hs⟩:=h.resolve_left h0;have e4:((((x.k:Nat):Int) != 4)==false)=true:=by simp [h4]
   have es:(ByteArray.toList (baL x.s)==ByteArray.toList (ByteArray.mk (List.toArray [125])))=true:=by have:=beq_ba x.s [125];rw [hs] at this;rw [hs];exact this.trans (by decide)
   simp only [q197,zw_t,aL,dQ,gL,dL,q8c,qm1,x25q,x26q,all_38,apd_38,show ((!false)==true)=true from rfl,e0,e4,es,x15q,x1q,x21q,x20q]
 cases hst:stopB x with
 |true =>rw [if_pos rfl];exact ⟨W,_,hstop hst,by simp,hm,n,x,R,rfl,hA,rfl⟩
 |false =>
  rw [if_neg (by simp)]
  obtain ⟨t,st,q1,q2⟩:=ih d m n x R hA hd hm (by simp only [x9q];omega) (by simp only [x9q];omega)
  have e1:decide ((W.length+1+(W.length+1) / 4+192)*184<=281474976710656)=true:=by simp;omega
  have e2:decide (W.length+1<=9223372036854775807)=true:=by simp;omega
  have eL:(W++[t]).length=W.length+1:=by simp
  have go:∀ z,q191 (W.length+1) st.1 st.2.1 st.2.2.1 st.2.2.2.1 st.2.2.2.2.1 st.2.2.2.2.2.1 st.2.2.2.2.2.2.1 st.2.2.2.2.2.2.2.1 st.2.2.2.2.2.2.2.2 (W++[t])=some z->q191 W.length b ((n:Nat):Int) ((x.k:Nat):Int) ((x.o:Nat):Int) (baL x.s) false (m:Int) (d:Int) 0 W=some z:=λz hz=>by
   refine q193 ?_;simp only [stopB,y44q,beq_eq_false_iff_ne,ne_eq,y37q] at hst;have e0:((((x.k:Nat):Int) != 0)==true)=true:=by simp;omega
   by_cases h4:x.k=4
   ·have e4:((((x.k:Nat):Int) != 4)==false)=true:=by simp [h4]
    have es:(ByteArray.toList (baL x.s)==ByteArray.toList (ByteArray.mk (List.toArray [125])))=false:=by
     have:=beq_ba x.s [125];refine this.trans ?_;have:=hst.2.resolve_left (by simp [h4])
     simpa using this
    simp only [q197,zw_t,aL,dQ,gL,dL,q8c,qm1,x25q,x26q,all_38,apd_38,e0,e4,es,x11q,x20q,q1,x0q,x9q,x8q,x13q,e1,e2,x17q,x23q,x19q,x4q,eta_R,hz]
   ·have e4:((((x.k:Nat):Int) != 4)==false)=false:=by simp;omega
    simp only [q197,zw_t,aL,dQ,gL,dL,q8c,qm1,x25q,x26q,all_38,apd_38,show ((!false)==true)=true from rfl,e0,e4,x1q,x21q,x20q,q1,x0q,x9q,x8q,x13q,e1,e2,x17q,x23q,x19q,x4q,eta_R,hz]
  cases hs:sRule f d m (x::R) with
  |inl o =>
   rw [hs] at q2;obtain ⟨n2,z,r2,z1,rfl⟩:=q2;have hd3:=qqp b ((n2:Nat):Int) ((z.k:Nat):Int) ((z.o:Nat):Int) (baL z.s) r2 (d:Int) 0 (W++[t])
   rw [eL] at hd3;refine ⟨W++[t],stP b n2 z true r2 (d:Int) 0,go _ ?_,n2,z,r2,z1,rfl⟩;rw [eL];exact hd3
  |inr w =>
   have hlen:=qro hs;rw [hs] at q2;obtain ⟨rfl,q3,n2,z,R2,j1,j2,rfl⟩:=q2;dsimp only [thn];rw [j1] at hlen ⊢;simp only [x9q] at hlen;obtain ⟨l,st2,k1,k2⟩:=ihs d w.2.2 n2 z R2 (W++[w.1]) j2 hd q3 (by simp only [x9q];omega) (by rw [eL];simp only [x9q];omega)
   rw [eL] at k1;refine ⟨l,st2,go _ k1,?_⟩;cases hs2:sRules f d w.2.2 (z::R2) with
   |inl o=>rw [hs2] at k2;exact k2
   |inr v =>rw [hs2] at k2;obtain ⟨rfl,k3,k4⟩:=k2;exact ⟨by simp,k3,k4⟩
theorem pr_all:∀ f,PR b f/\PB b f/\PS b f
 |0=>⟨λd m n x R _ _ _ h=>by omega,λd m n x R _ _ _ h=>by omega,λd m n x R W _ _ _ h=>by omega⟩
 |f+1=>⟨qzm b hb (pr_all f).2.1,qyd b hb (pr_all f).2.2,qzo b (pr_all f).1 (pr_all f).2.2⟩
omit hb
theorem qws (b:BA) (hs:b.size<=4000->∀ l,sScript (bl b)=.inr l->q131 l=some (scriptF l)):q11p b=some ((sParse (bl b)).1,(sParse (bl b)).2):=by
 have e1:qbr.decL []=[]:=rfl;have hlen:(bl b).length=b.size:=by simp [bl]
 unfold sParse;rw [hlen];by_cases h4:4000<b.size
 ·rw [if_pos h4]
  refine q11o ?_;simp only [q11q,gL,dL,q8c,qm1,x25q,x26q,show ((b.size:Nat):Int)>4000 by omega,decide_true,x20q,qib,x0q,e1]
 rw [if_neg h4];have hb:b.size<=4000:=by omega
 obtain ⟨n,x,R,q1,q2,q3⟩:=q16 hb (Nat.zero_le b.size) 0 0 noTx false 0 1 0;rw [x10q] at q1;have q1:toksF (bl b) 0=x::R:=q1
 have q3:q15z b 0 0 0 noTx false 0 1 0=some ((),(),b,((n:Nat):Int),((x.k:Nat):Int),((x.o:Nat):Int),baL x.s,false,0,1,0):=q3;have hl:=q1ig ((bl b).length+1) (bl b) 0
 have hl:(toksF (bl b) 0).length<=(bl b).length+1:=hl;rw [q1] at hl;simp only [x9q] at hl;obtain ⟨l,st,k1,k2⟩:=(pr_all b hb (fuel (bl b))).2.2 1 0 n x R [] q2 (by omega) (by omega) (by unfold fuel;simp only [x9q];omega) (by simp only [x9q,x8q];omega)
 have k1:=q1cm k1;have k1:q18y b ((n:Nat):Int) ((x.k:Nat):Int) ((x.o:Nat):Int) (baL x.s) false 0 1 0=some (l,l,st):=k1
 have sc:sScript (bl b)=thn (sRules (fuel (bl b)) 1 0 (x::R)) λy=>match y.2.1 with|x::_=>if x.k=0 then .inr y.1 else .inl x.o|[]=>.inl 0:=by unfold sScript;rw [←q1];rfl
 have hsz:¬ ((b.size:Nat):Int)>4000:=by omega
 cases hr:sRules (fuel (bl b)) 1 0 (x::R) with
 |inl o =>
  rw [hr] at k2 sc;obtain ⟨n2,z,r2,z1,rfl⟩:=k2;have sc:sScript (bl b)=.inl o:=sc
  rw [sc];refine q11o ?_;simp only [q11q,gL,dL,q8c,qm1,x25q,x26q,hsz,decide_false,x1q,x21q,q3,k1,qib,x0q,e1,show (true==false)=false from rfl,z1]
 |inr y =>
  rw [hr] at k2 sc;obtain ⟨rfl,_,n2,z,R2,z1,z2,rfl⟩:=k2;simp only [thn,z1] at sc;by_cases hz:z.k=0
  ·rw [if_pos hz] at sc
   have hv:=hs hb _ sc;have e0:(((z.k:Nat):Int) != 0)=false:=by simp [hz]
   rw [sc];simp only [y14q] at *;by_cases hf:(scriptF y.1).1=0
   ·have ef:((scriptF y.1).1 != 0)=false:=by simp [hf]
    refine q11o ?_;simp only [q11q,gL,dL,q8c,qm1,x25q,x26q,hsz,decide_false,x1q,x21q,q3,k1,qib,qi9,none_s,hv,hf,e0,x0q,e1,x19q,x20q,ne_eq,not_true_eq_false,bne_self_eq_false,x1q,x21q]
   ·have ef:((scriptF y.1).1 != 0)=true:=by simp [hf]
    refine q11o ?_;simp only [q11q,gL,dL,q8c,qm1,x25q,x26q,hsz,decide_false,x1q,x21q,q3,k1,qib,qi9,hv,ef,hf,e0,x0q,e1,x19q,x20q,ne_eq,not_false_eq_true]
  ·rw [if_neg hz] at sc
   have e0:(((z.k:Nat):Int) != 0)=true:=by simp;omega
   rw [sc];refine q11o ?_;simp only [q11q,gL,dL,q8c,qm1,x25q,x26q,hsz,decide_false,x1q,x21q,q3,k1,qib,x0q,e1,x19q,x20q,e0]
end
end Go.Proofs.YtmlcmoaonaomfaaGreatDoor
namespace Go.Proofs.YtmlcmoaonaomfaaGreatDoor
open Go.RowKit
theorem foldB (l:List UInt8):ByteArray.mk (List.toArray l)=baL l:=rfl
theorem gm {n:Nat} (h:n<=9223372036854775807):decide (((n:Nat):Int)>IntKind.max .i64)=false:=decide_eq_false (by
 show ¬ (_>(9223372036854775807:Int));omega)
theorem quo_s {s:BA} (h:s.size<=4000000000):quoP s=some (baL (quoL (bl s))):=by
 unfold quoP;rw [if_pos (by omega)]
 rfl
theorem ito_s {n:Int} (h:0<=n/\n<=1000000):itoaP n=some (baL (Lib.decDigits n.toNat)):=by
 unfold itoaP;rw [if_pos (by omega)]
 have:Lib.itoa n=Lib.decDigits n.toNat:=by unfold Lib.itoa;rw [if_neg (by omega)]
 rw [this];rfl
theorem q114 (d:Nat):(List.replicate d ([32,32]:List UInt8)).flatten=ind d:=by
 induction d with
 |zero=>rfl
 |succ d ih=>rw [List.replicate_succ,List.flatten_cons,ih];unfold ind;rw [show 2*(d+1)=2*d+1+1 by omega,List.replicate_succ,List.replicate_succ];rfl
theorem rep_s {d:Nat} (h:d<=1000):repP (baL [32,32]) (d:Int)=some (baL (ind d)):=by
 unfold repP;rw [if_pos ⟨by omega,by omega,by rw [q5i];simp⟩,q5h,Int.toNat_natCast,q114]
 rfl
theorem q1hy:∀ l:List S35,testsC l=Lib.joinTail [44,32] (l.map testL)
 |[]=>rfl
 |t::l=>by have:=q1hy l;simp only [testsC,Lib.joinTail,y20q,List.flatten_cons,List.map_map] at this ⊢;rw [this];simp
theorem q1hz (l:List S35):Lib.join (l.map testL) [44,32]=testsL l:=by
 cases l with
 |nil=>rfl
 |cons t l=>rw [y20q,Lib.join_cons,←q1hy];rfl
theorem join_s {l:List S35} (h:(testsL l).length<=100000000000000) (hl:l.length<=100000000000000):joinP (l.map λt=>baL (testL t)) (baL [44,32])=some (baL (testsL l)):=by
 have e:((l.map λt=>baL (testL t)).map λx=>x.data.toList)=l.map testL:=by rw [List.map_map];apply List.map_congr_left;intro t _;exact q5h _
 unfold joinP;rw [e,q5h,q1hz,if_pos ⟨by omega,by rw [y36q];omega⟩]
 rfl
theorem qt5 (k:Int) (ts:List S35) (nm:BA) (p:Int) (tx:BA) (n:Int) (hp:1<=p/\p<=3) (ht:tx.size<=200):q13k k ts nm p tx n=some (baL (matL p tx)):=by
 have hq:=quo_s (s:=tx) (by omega)
 have q2:=quo_le (bl tx);rw [bl_len] at q2;have:p=1∨p=2∨p=3:=by omega
 refine q13j ?_;rcases this with rfl|rfl|rfl
 ·have w:IntKind.i64.wrap ((1:Int) - 1)=0:=q1jq (by omega)
  have hw:[baL wIs,baL wContains,baL wLike].getD (Int.toNat 0) ByteArray.empty=baL wIs:=rfl;have l1:wIs.length=2:=rfl
  simp (disch:=omega) only [q13l,p0,q8c,qm1,qt6,y15q,w,hw,hq,foldB,q5i,q5g,y33q,y22q,y28q,gm,y13q,if_false];rw [if_pos (by decide)]
  simp [matL,matchW]
 ·have w:IntKind.i64.wrap ((2:Int) - 1)=1:=q1jq (by omega)
  have hw:[baL wIs,baL wContains,baL wLike].getD (Int.toNat 1) ByteArray.empty=baL wContains:=rfl;have l1:wContains.length=8:=rfl
  simp (disch:=omega) only [q13l,p0,q8c,qm1,qt6,y15q,w,hw,hq,foldB,q5i,q5g,y33q,y22q,y28q,gm,y13q,if_false];rw [if_pos (by decide)]
  simp [matL,matchW]
 ·have w:IntKind.i64.wrap ((3:Int) - 1)=2:=q1jq (by omega)
  have hw:[baL wIs,baL wContains,baL wLike].getD (Int.toNat 2) ByteArray.empty=baL wLike:=rfl;have l1:wLike.length=4:=rfl
  simp (disch:=omega) only [q13l,p0,q8c,qm1,qt6,y15q,w,hw,hq,foldB,q5i,q5g,y33q,y22q,y28q,gm,y13q,if_false];rw [if_pos (by decide)]
  simp [matL,matchW]
noncomputable def ofT (t:S35):Oq BA:=q156 t.Kind t.Tests t.Name t.Pattern t.Text t.N
theorem qvy (ts:List S35) (hl:ts.length<=1000000000) (ih:∀ t∈ts,ofT t=some (baL (testL t))) :
  ∀ m i,i+m=ts.length->qvm i ts (ts.length:Int) (i:Int) ((ts.take i).map λt=>baL (testL t))=some ((ts.length,ts,(ts.length:Int),(ts.length:Int),false),ts.map λt=>baL (testL t)):=by
 intro m;induction m with
 |zero =>
  intro i hi;have hi:i=ts.length:=by omega
  subst hi;refine qvo ?_;simp only [qvs,z1w,gL,dL,eC,wI,p0,aL,dQ,dM,uL,q8c,qm1,x25q,x26q,x27q,q3w,q49,qpt,q4h,q4i,q4j,q4k,q4l,q4m,show ¬ ((ts.length:Int)<(ts.length:Int)) by omega,decide_false,x1q,x21q,x20q,List.take_length]
 |succ m ihm =>
  intro i hi;have hlt:i<ts.length:=by omega
  have h1:q156 ts[i].Kind ts[i].Tests ts[i].Name ts[i].Pattern ts[i].Text ts[i].N=some (baL (testL ts[i])):=ih _ (y24q hlt);have w1:IntKind.i64.wrap ((i:Int)+1)=((i+1:Nat):Int):=q1jr hlt (by omega)
  have e1:decide ((i+1+(i+1) / 4+192)*16<=281474976710656)=true:=by simp;omega
  have e2:decide (i+1<=9223372036854775807)=true:=by simp;omega
  have et:((ts.take i).map λt=>baL (testL t))++[baL (testL ts[i])]=(ts.take (i+1)).map λt=>baL (testL t):=by rw [List.take_succ_eq_append_getElem hlt,List.map_append];rfl
  have h2:=ihm (i+1) (by omega)
  refine qvo ?_;simp only [qvs,z1w,gL,dL,eC,wI,p0,aL,dQ,dM,uL,q8c,qm1,x25q,x26q,x27q,q3w,q49,qpt,q4h,q4i,q4j,q4k,q4l,q4m,show ((i:Int)<(ts.length:Int)) by omega,show (0:Int)<=(i:Int) by omega,decide_true,x3q,hlt,x4q,x20q,qm4 hlt,h1,x0q,w1,x9q,x8q,x13q,e1,e2,x17q,x23q,x19q,et,h2]
theorem ofl_s (k:Int) (ts:List S35) (nm:BA) (p:Int) (tx:BA) (n:Int) (hl:ts.length<=1000000000) (hz:(testsL ts).length<=10000000000000) (ih:∀ t∈ts,ofT t=some (baL (testL t))) :
  qvt k ts nm p tx n=some (baL (40::(testsL ts++[41]))):=by
 have h:=qvy ts hl ih ts.length 0 (by omega)
 have h:qvm 0 ts (ts.length:Int) 0 []=_:=h;have d0:qby.decL []=[]:=rfl
 have hj:=join_s (l:=ts) (by omega) (by omega)
 refine qvl ?_;simp (disch:=omega) only [qvu,gL,dL,lN,q8c,qm1,EC.decL_encL,EC.isL_encL,EC.encL_length,if_true,d0,h,y15q,foldB,hj,q5i,q5g,y33q,y22q,y28q,gm,y13q,if_false];simp
theorem ofT_s:∀ (e d:Nat),d+e=9->∀ t:S35,tfT t d=0->tzT t<=1000000000->ofT t=some (baL (testL t))
 |0,d,hd,t,h,_=>by have:=(q1fd h).d8;omega
 |e+1,d,hd,⟨k,ts,nm,p,tx,n⟩,h,hz=>by
  have F:=q1fd h;have S:=q1fe h
  have tl:=q1ht (e+1) d hd _ h;rw [tzT_eq] at hz tl;have hz':tzL ts<=1000000000:=by simp only at hz;omega
  have ihs:∀ u∈ts,ofT u=some (baL (testL u)):=λu hu=>ofT_s e (d+1) (by omega) u (F.sub u hu) (by have:=tz_mem hu;omega)
  have hlen:(testsL ts).length<=1000*tzL ts:=q1i0 λu hu=>q1ht e (d+1) (by omega) u (F.sub u hu)
  have hk:=F.k;have hp:=F.p3
  have hn:=F.nr;have hk2:=F.k2
  simp only at hk hp hn hk2 S;have q1:=quo_le (bl nm)
  rw [bl_len] at q1;have hq1:=quo_s (s:=nm) (by omega)
  have hi:=ito_s hn;have hdl:=qay 6 n.toNat (by omega)
  have hm:k=5∨k=6∨k=7->q13k k ts nm p tx n=some (baL (matL p tx)):=λh=>qt5 k ts nm p tx n (hp h) S.2.1;have hml:k=5∨k=6∨k=7->(matL p tx).length<=411:=λh=>by
   have:=qt3 (hp h);have q2:=quo_le (bl tx)
   rw [bl_len] at q2;simp only [matL,x12q,x9q];omega
  have hol:=ofl_s k ts nm p tx n (by omega) (by omega) ihs
  show q156 k ts nm p tx n=some (baL (testL ⟨k,ts,nm,p,tx,n⟩));refine q155 ?_;have hcase:k=1∨k=2∨k=3∨k=4∨k=5∨k=6∨k=7∨k=8∨k=9:=by omega
  rcases hcase with rfl|rfl|rfl|rfl|rfl|rfl|rfl|rfl|rfl
  ·simp (disch:=omega) only [q157,↓q8c,↓reduceIte,foldB,show ((1:Int)==2)=false from rfl,show ((1:Int)==3)=false from rfl,show ((1:Int)==4)=false from rfl,show ((1:Int)==5)=false from rfl,show ((1:Int)==6)=false from rfl,show ((1:Int)==7)=false from rfl,show ((1:Int)==8)=false from rfl,show ((1:Int)==9)=false from rfl,y13q]
   rfl
  ·obtain ⟨u,hu⟩:∃ u,ts=[u]:=by
    exact List.length_eq_one_iff.1 (hk2 rfl)
   subst hu;have h1:q156 u.Kind u.Tests u.Name u.Pattern u.Text u.N=some (baL (testL u)):=ihs u (by simp)
   have hl2:(testL u).length<=1000*tzL [u]:=by simpa [testsL,testsC] using hlen
   have g0:([u]:List S35).getD (Int.toNat 0) (qbp.dec [])=u:=rfl;have g1:decide (Int.toNat 0<[u].length)=true:=rfl
   simp (disch:=omega) only [q157,z1x,eC,uL,↓q8c,↓qm1,↓reduceIte,EC.decL_encL,EC.isL_encL,EC.encL_length,qpt,q4h,q4i,q4j,q4k,q4l,q4m,y15q,foldB,beq_self_eq_true,g0,Bool.and_self,h1,q5i,q5g,y22q,y28q,gm,y13q];simp [testL,testsL,testsC,testW,wNot]
  ·simp (disch:=omega) only [q157,dL,↓q8c,↓qm1,↓reduceIte,EC.decL_encL,EC.isL_encL,y15q,foldB,show ((3:Int)==2)=false from rfl,beq_self_eq_true,hol,q5i,q5g,y33q,y22q,y28q,gm,y13q]
   simp [testL,testW,wAll]
  ·simp (disch:=omega) only [q157,dL,↓q8c,↓qm1,↓reduceIte,EC.decL_encL,EC.isL_encL,y15q,foldB,show ((4:Int)==2)=false from rfl,show ((4:Int)==3)=false from rfl,beq_self_eq_true,hol,q5i,q5g,y33q,y22q,y28q,gm,y13q]
   simp [testL,testW,wAny]
  ·have h5:=hm (by omega)
   have l5:=hml (by omega)
   simp (disch:=omega) only [q157,dL,↓q8c,↓qm1,↓reduceIte,EC.decL_encL,EC.isL_encL,y15q,foldB,show ((5:Int)==2)=false from rfl,show ((5:Int)==3)=false from rfl,show ((5:Int)==4)=false from rfl,beq_self_eq_true,hq1,h5,q5i,q5g,y33q,y22q,y28q,gm,y13q]
   simp [testL,testW,wHeader]
  ·have h5:=hm (by omega)
   have l5:=hml (by omega)
   simp (disch:=omega) only [q157,dL,↓q8c,↓qm1,↓reduceIte,EC.decL_encL,EC.isL_encL,y15q,foldB,show ((6:Int)==2)=false from rfl,show ((6:Int)==3)=false from rfl,show ((6:Int)==4)=false from rfl,show ((6:Int)==5)=false from rfl,beq_self_eq_true,h5,q5i,q5g,y22q,y28q,gm,y13q]
   simp [testL,testW,wFrom]
  ·have h5:=hm (by omega)
   have l5:=hml (by omega)
   simp (disch:=omega) only [q157,dL,↓q8c,↓qm1,↓reduceIte,EC.decL_encL,EC.isL_encL,y15q,foldB,show ((7:Int)==2)=false from rfl,show ((7:Int)==3)=false from rfl,show ((7:Int)==4)=false from rfl,show ((7:Int)==5)=false from rfl,show ((7:Int)==6)=false from rfl,beq_self_eq_true,h5,q5i,q5g,y22q,y28q,gm,y13q]
   simp [testL,testW,wTo]
  ·simp (disch:=omega) only [q157,↓q8c,↓reduceIte,y15q,foldB,show ((8:Int)==2)=false from rfl,show ((8:Int)==3)=false from rfl,show ((8:Int)==4)=false from rfl,show ((8:Int)==5)=false from rfl,show ((8:Int)==6)=false from rfl,show ((8:Int)==7)=false from rfl,beq_self_eq_true,hi,q5i,q5g,y22q,y28q,gm,y13q]
   simp [testL,testW,wSize]
  ·simp (disch:=omega) only [q157,↓q8c,↓reduceIte,y15q,foldB,show ((9:Int)==2)=false from rfl,show ((9:Int)==3)=false from rfl,show ((9:Int)==4)=false from rfl,show ((9:Int)==5)=false from rfl,show ((9:Int)==6)=false from rfl,show ((9:Int)==7)=false from rfl,show ((9:Int)==8)=false from rfl,beq_self_eq_true,hq1,q5i,q5g,y22q,y28q,gm,y13q]
   simp [testL,testW,wExists]
theorem vL_mem {l:List S38} {d:Nat} (h:vL l d) {r:S38} (hr:r∈l):vR r d:=by
 induction l with
 |nil=>cases hr
 |cons a l ih =>
  rcases y32q.1 hr with rfl|hr
  ·exact h.1
  ·exact ih h.2 hr
theorem q1io {l:List S38} {r:S38} (hr:r∈l):tsz r<=tszL l:=by
 induction l with
 |nil=>cases hr
 |cons a l ih =>
  simp only [tszL];rcases y32q.1 hr with rfl|hr
  ·omega
  ·have:=ih hr;omega
theorem q1ip (r:S38):1<=tsz r:=by rw [tsz_eq,tzT_eq];omega
theorem qrr:∀ l:List S38,l.length<=tszL l
 |[]=>Nat.zero_le _
 |r::l=>by have:=qrr l;have:=q1ip r;simp only [tszL,x9q];omega
theorem g7_s {l:List UInt8} (h:l.length<=1000000000000000):q14g (baL l)=some (baL (l++[10]),()):=by refine q14i ?_;simp (disch:=omega) only [q14m,↓q8c,↓reduceIte,foldB,q5i,q5g,y22q,y28q,gm,y13q]
theorem g17_s {l:List UInt8} (h:l.length<=1000000000000000):q149 (baL l)=some (baL (l++[59,10]),()):=by refine q14b ?_;simp (disch:=omega) only [q14f,↓q8c,↓reduceIte,foldB,q5i,q5g,y22q,y28q,gm,y13q]
theorem g15_6 {l:List UInt8} (h:l.length<=1000000000000) (k tk:Int) (tts:List S35) (tnm:BA) (tp:Int) (ttx:BA) (tn:Int) (th el:List S38) (nm tx:BA) {n:Int} (hn:0<=n/\n<=1000000) :
  q142 (baL l) k tk tts tnm tp ttx tn th el 6 nm tx n=some (baL (l++32::(Lib.decDigits n.toNat++[59,10])),()):=by
 have hi:=ito_s hn;have hdl:=qay 6 n.toNat (by omega)
 refine q144 ?_;have g:=g17_s (l:=l++([32]++Lib.decDigits n.toNat)) (by simp only [x12q,x9q,x8q];omega)
 simp (disch:=omega) only [q148,↓q8c,↓reduceIte,beq_self_eq_true,hi,y15q,foldB,q5i,q5g,y33q,y22q,y28q,gm,y13q,g];simp
theorem g15_n {l:List UInt8} (h:l.length<=1000000000000) (k tk:Int) (tts:List S35) (tnm:BA) (tp:Int) (ttx:BA) (tn:Int) (th el:List S38) {act:Int} (ha:¬ act=6) (nm tx:BA) (n:Int) :
  q142 (baL l) k tk tts tnm tp ttx tn th el act nm tx n=some (baL (l++[59,10]),()):=by
 have e6:(act==6)=false:=by simpa using ha
 refine q144 ?_;simp (disch:=omega) only [q148,↓q8c,↓reduceIte,e6,y15q,y13q,g17_s]
noncomputable def ofR (r:S38) (d:Int):Oq BA:=q14n r.Kind r.Test_Kind r.Test_Tests r.Test_Name r.Test_Pattern r.Test_Text r.Test_N r.Then r.Else r.Act r.Name r.Text r.N d
theorem qvx (d:Nat) (l:List S38) (hl:l.length<=1000000000) (hz:tszL l<=1000000000) (hr:∀ r∈l,ofR r (d:Int)=some (baL (ruleL r d))/\(ruleL r d).length<=2000*tsz r) :
  ∀ m i (acc:List UInt8),i+m=l.length->acc.length+2000*tszL (l.drop i)<=2000*tszL l->q14t (d:Int) (baL acc) l (l.length:Int) (i:Int)=some (((d:Int),baL (acc++rulesL (l.drop i) d),l,(l.length:Int),(l.length:Int),false),()):=by
 intro m;induction m with
 |zero =>
  intro i acc hi _;have hi:i=l.length:=by omega
  subst hi;refine q14v ?_;simp only [q14z,z1y,gL,dL,eC,wI,p0,uL,q8c,qm1,x25q,x26q,x27q,qpu,q4o,q4p,q4t,q4u,q4v,q4w,q4x,q4y,q4z,q50,q4q,q4r,q4s,show ¬ ((l.length:Int)<(l.length:Int)) by omega,decide_false,x1q,x21q,x20q,List.drop_length,rulesL,List.append_nil]
 |succ m ihm =>
  intro i acc hi ha;have hlt:i<l.length:=by omega
  obtain ⟨h1,h1l⟩:=hr _ (y24q hlt);have hm:=q1io (y24q hlt)
  have h1:q14n l[i].Kind l[i].Test_Kind l[i].Test_Tests l[i].Test_Name l[i].Test_Pattern l[i].Test_Text l[i].Test_N l[i].Then l[i].Else l[i].Act l[i].Name l[i].Text l[i].N (d:Int)=some (baL (ruleL l[i] d)):=h1;have w1:IntKind.i64.wrap ((i:Int)+1)=((i+1:Nat):Int):=q1jr hlt (by omega)
  have hdz:tszL (l.drop i)=tsz l[i]+tszL (l.drop (i+1)):=by rw [qbm hlt];rfl
  have hacc:acc.length+(ruleL l[i] d).length<=9223372036854775807:=by omega
  have h2:=ihm (i+1) (acc++ruleL l[i] d) (by omega) (by rw [x12q];omega)
  rw [qbm hlt,rulesL,←y12q];refine q14v ?_;simp (disch:=omega) only [q14z,z1y,gL,dL,eC,wI,p0,uL,q8c,qm1,EC.decL_encL,EC.isL_encL,EC.encL_length,qpu,q4o,q4p,q4t,q4u,q4v,q4w,q4x,q4y,q4z,q50,q4q,q4r,q4s,show ((i:Int)<(l.length:Int)) by omega,show (0:Int)<=(i:Int) by omega,decide_true,Int.toNat_natCast,hlt,Bool.and_self,if_true,qm4 hlt,h1,y15q,w1,q5i,q5g,gm,y13q,if_false,h2]
theorem ofS_of (d:Nat) (l:List S38) (hz:tszL l<=1000000000) (hr:∀ r∈l,ofR r (d:Int)=some (baL (ruleL r d))/\(ruleL r d).length<=2000*tsz r):q150 l (d:Int)=some (baL (rulesL l d)):=by
 have h:=qvx d l (by have:=qrr l;omega) hz hr l.length 0 [] (by omega) (by simp)
 have h:q14t (d:Int) noTx l (l.length:Int) 0=_:=h;refine q14s ?_;simp only [q151,gL,dL,lN,qm1,x25q,x26q,x27q,x20q,h,x0q,y14q,x10q]
theorem qt {a:Int} (h:1<=a/\a<=7):[baL wKeep,baL wFile,baL wDiscard,baL wRedirect,baL wReject,baL wFlag,baL wReply].getD (Int.toNat (a - 1)) ByteArray.empty=baL (actW a):=by
 have:a=1∨a=2∨a=3∨a=4∨a=5∨a=6∨a=7:=by omega
 rcases this with rfl|rfl|rfl|rfl|rfl|rfl|rfl <;> rfl
theorem q11h {d:Nat} {r:S38} (hd:d<=8) (h:vR r (d+1)):(ruleL r d).length<=2000*tsz r:=by
 have:=q13f (8 - d) d (by omega) [r] ⟨h,trivial⟩
 simpa [rulesL,tszL] using this
section
variable (tk:Int) (tts:List S35) (tnm:BA) (tp:Int) (ttx:BA) (tn:Int) (th el:List S38) (act:Int) (nm tx:BA) (n d d1:Int) (I T A E:List UInt8)
 (hI:I.length<=1000) (hT:T.length<=10000000000000) (hA:A.length<=10000000000000) (hrep:repP (baL [32,32]) d=some (baL I)) (ht:q156 tk tts tnm tp ttx tn=some (baL T)) (w1:IntKind.i64.wrap (d+1)=d1) (iht:q150 th d1=some (baL A))
include hI hT hA hrep ht w1 iht
set_option maxHeartbeats 2000000 in
theorem qvv:q14n 1 tk tts tnm tp ttx tn th [] act nm tx n d=some (baL (I++([105,102,32]++(T++([32,123,10]++(A++(I++([125]++[10])))))))):=by
 have ce:decide (((0:Nat):Int)>0)=false:=rfl;have g:=g7_s (l:=I++([105,102,32]++(T++([32,123,10]++(A++(I++[125])))))) (by simp only [x12q,x9q,x8q];omega)
 refine q141 ?_;simp (disch:=omega) only [q14o,dL,lN,wI,↓q8c,↓qm1,↓reduceIte,EC.decL_encL,EC.isL_encL,EC.encL_length,foldB,hrep,y15q,beq_self_eq_true,ht,w1,iht,ce,q5i,q5g,y33q,y22q,y28q,gm,y13q,y12q,g]
set_option maxHeartbeats 8000000 in
theorem qvw (hel:0<el.length) (hE:E.length<=10000000000000) (ihe:q150 el d1=some (baL E)):q14n 1 tk tts tnm tp ttx tn th el act nm tx n d =
  some (baL (I++([105,102,32]++(T++([32,123,10]++(A++(I++([125]++([32,101,108,115,101,32,123,10]++(E++(I++([125]++[10])))))))))))):=by
 have ce:decide (((el.length:Nat):Int)>0)=true:=by simp;omega
 have g:=g7_s (l:=I++([105,102,32]++(T++([32,123,10]++(A++(I++([125]++([32,101,108,115,101,32,123,10]++(E++(I++[125])))))))))) (by simp only [x12q,x9q,x8q];omega)
 refine q141 ?_;simp (maxSteps:=2000000) (disch:=omega) only [q14o,dL,lN,wI,↓q8c,↓qm1,↓reduceIte,EC.decL_encL,EC.isL_encL,EC.encL_length,foldB,hrep,y15q,beq_self_eq_true,ht,w1,iht,ihe,ce,q5i,q5g,y33q,y22q,y28q,gm,y13q,y12q,g]
end
theorem ofR_s (d:Nat) (r:S38) (hv:vR r (d+1)) (hz:tsz r<=1000000000) (iht:q150 r.Then ((d+1:Nat):Int)=some (baL (rulesL r.Then (d+1)))) (ihe:q150 r.Else ((d+1:Nat):Int)=some (baL (rulesL r.Else (d+1)))) :
  ofR r (d:Int)=some (baL (ruleL r d)):=by
 obtain ⟨F,v1,v2⟩:=q1j1 hv;have hd8:=F.d8
 have hrH:rHead r=0:=by cases r;exact hv.2.1
 have S:=q10a hrH;have hlt:=q13f (7 - d) (d+1) (by omega) r.Then v1
 have hle:=q13f (7 - d) (d+1) (by omega) r.Else v2
 have htz:=tsz_eq r;have hrep:=rep_s (d:=d) (by omega)
 have hil:=qpa d;obtain ⟨k,tk,tts,tnm,tp,ttx,tn,th,el,act,nm,tx,n⟩:=r;have q2:=quo_le (bl tx)
 rw [bl_len] at q2;have hk:=F.k
 have hk1:=F.k1;have hac:=F.ac
 simp only [tOf] at *;clear v1 v2 F hrH hv;have hq:=quo_s (s:=tx) (by omega)
 have w1:IntKind.i64.wrap ((d:Int)+1)=((d+1:Nat):Int):=q1jr (n:=1000) (by omega) (by omega)
 show q14n k tk tts tnm tp ttx tn th el act nm tx n (d:Int)=some (baL (ruleL ⟨k,tk,tts,tnm,tp,ttx,tn,th,el,act,nm,tx,n⟩ d));have hcase:k=1∨k=2∨k=3∨k=4:=by omega
 rcases hcase with rfl|rfl|rfl|rfl
 ·have ht0:=(hk1 rfl).2.2.2.2
  have ht:=ofT_s 8 1 rfl ⟨tk,tts,tnm,tp,ttx,tn⟩ ht0 (by omega)
  have htl:=q1hu ht0;have ht:q156 tk tts tnm tp ttx tn=some (baL (testL ⟨tk,tts,tnm,tp,ttx,tn⟩)):=ht
  cases el with
  |nil =>
   refine (qvv tk tts tnm tp ttx tn th act nm tx n (d:Int) _ _ _ _ (by omega) (by omega) (by omega) hrep ht w1 iht).trans ?_
   simp [ruleL,wIf]
  |cons e0 el =>
   refine (qvw tk tts tnm tp ttx tn th (e0::el) act nm tx n (d:Int) _ _ _ _ _ (by omega) (by omega) (by omega) hrep ht w1 iht (by simp) (by omega) ihe).trans ?_
   simp [ruleL,wIf,wElse]
 ·obtain ⟨a1,a2,a3,a4⟩:=hac rfl
  refine q141 ?_;have hwl:=qr a1
  have wa:IntKind.i64.wrap (act - 1)=act - 1:=q1jq (by omega)
  have ga:=qt a1;have gi:((decide (0<=act - 1)&&decide (act - 1<((7:Nat):Int)))&&decide (Int.toNat (act - 1)<[baL wKeep,baL wFile,baL wDiscard,baL wRedirect,baL wReject,baL wFlag,baL wReply].length))=true:=by simp only [x6q,y45q,x9q,x8q];omega
  have e1:((2:Int)==1)=false:=rfl;have e3:((2:Int)==3)=false:=rfl
  have e4:((2:Int)==4)=false:=rfl;cases htx:txtB act with
  |true =>
   have n6:¬ act=6:=λe=>by rw [e] at htx;cases htx
   simp (disch:=omega) only [q14o,z1z,dL,p0,↓q8c,↓qm1,↓reduceIte,EC.decL_encL,EC.isL_encL,foldB,hrep,y15q,e1,e3,e4,qy,wa,ga,q1i1,htx,hq,q5i,q5g,y33q,y22q,y28q,gm,y13q];rw [g15_n (by simp only [y33q,x9q,x8q];omega) _ _ _ _ _ _ _ _ _ n6]
   simp [ruleL,htx];omega
  |false =>
   by_cases h6:act=6
   ·subst h6
    simp (disch:=omega) only [q14o,z1z,dL,p0,↓q8c,↓qm1,↓reduceIte,EC.decL_encL,EC.isL_encL,foldB,hrep,y15q,e1,e3,e4,qy,wa,ga,q1i1,htx,q5i,q5g,y22q,y28q,gm,y13q];rw [g15_6 (by simp only [y33q];omega) _ _ _ _ _ _ _ _ _ _ _ (by omega)]
    simp [ruleL,htx]
   ·simp (disch:=omega) only [q14o,z1z,dL,p0,↓q8c,↓qm1,↓reduceIte,EC.decL_encL,EC.isL_encL,foldB,hrep,y15q,e1,e3,e4,qy,wa,ga,q1i1,htx,q5i,q5g,y22q,y28q,gm,y13q]
    rw [g15_n (by simp only [y33q];omega) _ _ _ _ _ _ _ _ _ h6]
    simp [ruleL,htx,h6];omega
 ·refine q141 ?_
  have e1:((3:Int)==1)=false:=rfl;obtain ⟨NM,rfl⟩:∃ l,nm=baL l:=⟨bl nm,(ba_bl nm).symm⟩;have hN:bl (baL NM)=NM:=q5h NM
  have hns:=S.2;rw [q5i] at hns;simp (disch:=omega) only [q14o,↓q8c,↓reduceIte,foldB,hrep,y15q,e1,beq_self_eq_true,hq,q5i,q5g,y33q,y22q,y28q,gm,y13q];simp [ruleL,wSet,hN]
 ·refine q141 ?_
  have e1:((4:Int)==1)=false:=rfl;have e3:((4:Int)==3)=false:=rfl
  simp (disch:=omega) only [q14o,↓q8c,↓reduceIte,foldB,hrep,y15q,e1,e3,beq_self_eq_true,q5i,q5g,y22q,y28q,gm,y13q];simp [ruleL,wStop]
theorem ofS_s:∀ (e d:Nat),d+e=8->∀ l:List S38,vL l (d+1)->tszL l<=1000000000->q150 l (d:Int)=some (baL (rulesL l d))
 |0,d,hd,l,hv,hz=>ofS_of d l hz λr hr=>by have:=(q1j1 (vL_mem hv hr)).1.d8;omega
 |e+1,d,hd,l,hv,hz=>ofS_of d l hz λr hr=>by
  have h1:=vL_mem hv hr;have h2:=q1io hr
  have h3:=tsz_eq r;obtain ⟨_,v1,v2⟩:=q1j1 h1;exact ⟨ofR_s d r h1 (by omega) (ofS_s e (d+1) (by omega) r.Then v1 (by omega)) (ofS_s e (d+1) (by omega) r.Else v2 (by omega)),q11h (by omega) h1⟩
def sPrint (l:List S38):BA×(Int×Int):=if (scrF l).1≠0 then (noTx,scrF l) else if 4000<(rulesL l 0).length then (noTx,1,-1) else (baL (rulesL l 0),0,0)
theorem q1co {l:List S38} (h:(scrF l).1=0):vL l 1:=by obtain ⟨m,h1,_,_⟩:=q1cp h;exact ck_v _ l rfl _ _ _ h1
theorem qzn (l:List S38) (hl:l.length<=big) (ho:okL l) (hz:(scrF l).1=0->tszL l<=1000000000):q11v l=some (sPrint l):=by
 have hv:=q1j3 l hl ho;unfold sPrint;by_cases hf:(scrF l).1=0
 ·have ef:((scrF l).1 != 0)=false:=by simp [hf]
  have hs:=ofS_s 8 0 rfl l (q1co hf) (hz hf);have hs:q150 l 0=some (baL (rulesL l 0)):=hs
  rw [if_neg (by simp [hf])]
  by_cases h4:4000<(rulesL l 0).length
  ·rw [if_pos h4]
   refine q11u ?_;simp only [q11w,dL,↓q8c,↓qm1,↓reduceIte,x25q,x26q,hv,qi9,ef,hs,x0q,q5i,show (((rulesL l 0).length:Nat):Int)>4000 by omega,decide_true,qib,x1q]
  ·rw [if_neg h4]
   refine q11u ?_;simp only [q11w,dL,↓q8c,↓qm1,↓reduceIte,x25q,x26q,hv,qi9,ef,hs,x0q,q5i,show ¬ (((rulesL l 0).length:Nat):Int)>4000 by omega,decide_false,none_s,x1q]
 ·have ef:((scrF l).1 != 0)=true:=by simp [hf]
  rw [if_pos hf];refine q11u ?_;simp only [q11w,dL,↓q8c,↓qm1,↓reduceIte,x25q,x26q,hv,qi9,ef,x0q]
def okvT (t:S35):Prop:=∃ d,tfT t d=0
def okvL (l:List S38):Prop:=∃ n d m,n<=100/\ckL l n d=.inr m
theorem q1i2 {d:Nat}:∀ {ts:List S35},tfL ts d=0->∀ t∈ts,tfT t d=0
 |[],_,t,h=>by cases h
 |x::ts,h0,t,h=>by
  unfold tfL at h0;split at h0
  ·rename_i hne;exact absurd h0 hne
  ·rename_i hx
   rcases y32q.1 h with rfl|h
   ·simpa using hx
   ·exact q1i2 h0 t h
theorem qw7 {t:S35} (h:okvT t) {t':S35} (ht:t'∈t.Tests):okvT t':=by
 obtain ⟨d,h⟩:=h;rw [tfT_eq] at h;split at h
 ·rename_i hne;exact absurd h hne
 ·exact ⟨d+1,q1i2 h t' ht⟩
theorem qw8 {t:S35} (h:okvT t):(1<=t.Kind/\t.Kind<=9)/\innerB t.Kind t.Tests.length=true:=by
 obtain ⟨d,h⟩:=h;rw [tfT_eq] at h;split at h
 ·rename_i hne;exact absurd h hne
 ·rename_i h0
  have h0:tHead t.Kind t.Tests.length t.Name t.Pattern t.Text t.N d=0:=by simpa using h0
  unfold tHead at h0;split at h0
  ·cases h0
  split at h0
  ·cases h0
  rename_i h2;split at h0
  ·cases h0
  rename_i h3;simp only [y29q,y45q,not_or] at h2;exact ⟨by omega,by simpa using h3⟩
theorem okvR {l:List S38} (h:okvL l) {r:S38} (hr:r∈l):rHead r=0/\okvL r.Then/\okvL r.Else:=by
 obtain ⟨n,d,m,hn,hc⟩:=h;induction l generalizing n with
 |nil=>cases hr
 |cons x l ih =>
  unfold ckL at hc;split at hc
  ·cases hc
  rename_i h100;split at hc
  ·cases hc
  rename_i hrc;cases hq:ckR x n d with
  |inl f=>rw [hq] at hc;cases hc
  |inr n2 =>
   rw [hq] at hc;have hn2:n2<=100:=by
    have:=(ck_sz (szL [x]) [x] rfl n d hn).1 n2 (by simp only [ckL];rw [if_neg h100,if_neg hrc,hq])
    exact this.2
   rcases y32q.1 hr with rfl|hr
   ·have h0:rc r d=0:=by simpa using hrc
    refine ⟨?_,?_⟩
    ·unfold rc at h0
     split at h0
     ·cases h0
     ·exact h0
    ·rw [ckR_eq] at hq
     cases ht:ckL r.Then (n+1) (d+1) with
     |inl f=>rw [ht] at hq;cases hq
     |inr n1 =>rw [ht] at hq;exact ⟨⟨n+1,d+1,n1,by omega,ht⟩,⟨n1,d+1,n2,(ck_inr (by omega) ht).2,hq⟩⟩
   ·exact ih hr n2 hn2 hc
theorem qw6 {r:S38} (h:rHead r=0) (hk:(r.Kind==1)=true):okvT (tOf r):=by
 unfold rHead at h;split at h
 ·cases h
 split at h
 ·cases h
 ·exact ⟨1,h⟩
theorem qw9 {t:S35} (h:okvT t):t.Text.size<=200/\t.Name.size<=60:=by
 obtain ⟨d,h⟩:=h;rw [tfT_eq] at h;split at h
 ·rename_i hne;exact absurd h hne
 ·rename_i h0
  have h0:tHead t.Kind t.Tests.length t.Name t.Pattern t.Text t.N d=0:=by simpa using h0
  unfold tHead at h0;split at h0
  ·cases h0
  split at h0
  ·cases h0
  split at h0
  ·cases h0
  split at h0
  ·cases h0
  rename_i h4;split at h0
  ·cases h0
  rename_i h5;split at h0
  ·cases h0
  split at h0
  ·cases h0
  rename_i h7;have h7:¬ (t.Text.size:Int)>200:=by simpa using h7
  refine ⟨by omega,?_⟩
  cases hk:(t.Kind==5||t.Kind==9) with
  |true =>
   rw [hk] at h5;have h5:¬ (em t.Name=true∨(t.Name.size:Int)>60):=by simpa using h5
   omega
  |false =>
   rw [hk] at h4;have he:em t.Name=true:=by
    cases he:em t.Name with
    |true=>rfl
    |false=>rw [he] at h4;simp at h4
   rw [qc9] at he;have:=of_decide_eq_true he
   omega
theorem q11k {r:S38} (h:rHead r=0):(1<=r.Kind/\r.Kind<=4)/\(r.Kind≠1->r.Text.size<=200)/\(r.Kind=3->varB r.Name=true)/\(r.Kind≠1->r.Then=[]/\r.Else=[]):=by
 unfold rHead at h;split at h
 ·cases h
 rename_i hk;have hk:¬ (r.Kind<1∨r.Kind>4):=by simpa using hk
 refine ⟨by omega,?_⟩
 split at h
 ·rename_i h1
  have h1:r.Kind=1:=by simpa using h1
  exact ⟨λh=>absurd h1 h,λh=>by omega,λh=>absurd h1 h⟩
 ·unfold pHead at h
  split at h
  ·cases h
  rename_i h0;split at h
  ·cases h
  split at h
  ·cases h
  split at h
  ·cases h
  rename_i h4;split at h
  ·cases h
  rename_i h5;have h5:¬ (r.Text.size:Int)>200:=by simpa using h5
  refine ⟨λ_=>by omega,λh3=>?_,λ_=>?_⟩
  ·rw [h3] at h4
   simpa using h4
  ·simp only [y29q,not_or] at h0
   have:=h0.1.1.1.2;simp at this;exact this
section
variable (f:BA) (rc:List S73) (fs:List S71) (sz:Int)
mutual
def tsT:S35->MM->Bool×MM
 |⟨k,ts,nm,p,tx,n⟩,m =>
  if k=2 then tsH ts m else if k=3∨k=4 then tsA k ts m else if k=5 then mtcL p tx m (valsL fs nm) else if k=6 then mtcL p tx m [f] else if k=7 then mtcL p tx m (rc.map λx=>x.Address)
  else if k=8 then (decide (sz>n),m) else if k=9 then (decide (((valsL fs nm).length:Int)>0),m) else (true,m)
def tsH:List S35->MM->Bool×MM
 |[],m=>(true,m)
 |t::_,m=>(!(tsT t m).1,(tsT t m).2)
def tsA (k:Int):List S35->MM->Bool×MM
 |[],m=>(k==3,m)
 |t::l,m=>if (tsT t m).1=(k==4) then (k==4,(tsT t m).2) else tsA k l (tsT t m).2
end
theorem tsT_eq (t:S35) (m:MM):tsT f rc fs sz t m=if t.Kind=2 then tsH f rc fs sz t.Tests m else if t.Kind=3∨t.Kind=4 then tsA f rc fs sz t.Kind t.Tests m else if t.Kind=5 then mtcL t.Pattern t.Text m (valsL fs t.Name) else if t.Kind=6 then mtcL t.Pattern t.Text m [f] else if t.Kind=7 then mtcL t.Pattern t.Text m (rc.map λx=>x.Address)
  else if t.Kind=8 then (decide (sz>t.N),m) else if t.Kind=9 then (decide (((valsL fs t.Name).length:Int)>0),m) else (true,m):=by cases t;rw [tsT]
mutual
theorem q1in (n:Nat):∀ (t:S35) (m:MM),Inv n m->Inv n (tsT f rc fs sz t m).2
 |⟨k,ts,nm,p,tx,q⟩,m,h=>by
  rw [tsT];split
  ·exact q1im n ts m h
  ·split
   ·exact q1il n k ts m h
   ·split
    ·exact qsy h _ _ _
    ·split
     ·exact qsy h _ _ _
     ·split
      ·exact qsy h _ _ _
      ·split
       ·exact h
       ·split
        ·exact h
        ·exact h
theorem q1im (n:Nat):∀ (ts:List S35) (m:MM),Inv n m->Inv n (tsH f rc fs sz ts m).2
 |[],m,h=>by rw [tsH];exact h
 |t::_,m,h=>by rw [tsH];exact q1in n t m h
theorem q1il (n:Nat) (k:Int):∀ (ts:List S35) (m:MM),Inv n m->Inv n (tsA f rc fs sz k ts m).2
 |[],m,h=>by rw [tsA];exact h
 |t::l,m,h=>by
  rw [tsA];split
  ·exact q1in n t m h
  ·exact q1il n k l _ (q1in n t m h)
end
end
def exF (l:MM):Nat->List UInt8->List UInt8->List UInt8
 |0,_,out=>out
 |n+1,s,out =>
  if (Lib.cut s [36,123]).2.2=false∨(Lib.cut (Lib.cut s [36,123]).2.1 [125]).2.2=false then out++s
  else exF l n (Lib.cut (Lib.cut s [36,123]).2.1 [125]).2.1 (out++((Lib.cut s [36,123]).1++getM l (Lib.cut (Lib.cut s [36,123]).2.1 [125]).1))
def exT (m:MM) (s:BA):BA:=⟨((exF m (s.size+1) s.data.toList []).take 4000).toArray⟩
theorem qm7 {l:MM} (k:List UInt8) (h:∀ p∈l,p.2.size<=2000000):(getM l k).length<=2000000:=by
 unfold getM;cases hf:l.find? λp=>p.1.data.toList==k with
 |none=>simp
 |some p =>
  have:=h p (List.mem_of_find?_eq_some hf);show p.2.data.toList.length<=2000000
  rw [x24q];exact this
theorem expF_s {l:MM} (h:∀ p∈l,p.2.size<=2000000):∀ (n:Nat) (s out:List UInt8),s.length<n->s.length<=1000->out.length+s.length*3000000<=100000000000000->expF l n s out=some (exF l n s out):=by
 intro n;induction n with
 |zero=>intro s out h;omega
 |succ n ih =>
  intro s out hn hs ho;rw [expF,exF];split
  ·rw [if_pos (by omega)]
  ·rename_i hc
   have h1:(Lib.cut s [36,123]).2.2=true:=by
    cases hh:(Lib.cut s [36,123]).2.2 with
    |true=>rfl
    |false=>exact absurd (.inl hh) hc
   have h2:(Lib.cut (Lib.cut s [36,123]).2.1 [125]).2.2=true:=by
    cases hh:(Lib.cut (Lib.cut s [36,123]).2.1 [125]).2.2 with
    |true=>rfl
    |false=>exact absurd (.inr hh) hc
   have c1:=qak s [36,123] h1;have c2:=qak (Lib.cut s [36,123]).2.1 [125] h2
   have hv:=qm7 (Lib.cut (Lib.cut s [36,123]).2.1 [125]).1 h;simp only [x9q,x8q] at c1 c2;rw [if_pos (by omega)]
   refine ih _ _ (by omega) (by omega) ?_
   simp only [x12q];omega
theorem expP_s {l:MM} (h:∀ p∈l,p.2.size<=2000000) (s:BA) (hs:s.size<=1000):expP l s=some (exT l s):=by
 have e:s.data.toList.length=s.size:=by rw [x24q];rfl
 unfold expP exT;rw [if_pos (by omega),expF_s h (s.size+1) s.data.toList [] (by omega) (by omega) (by simp;omega)]
 rfl
theorem qhj (m:MM) (s:BA):(exT m s).size<=4000:=by show ((exF m (s.size+1) s.data.toList []).take 4000).toArray.size<=4000;rw [y41q,y48q];omega
section
variable (f:BA) (rc:List S73) (fs:List S71) (sz:Int)
mutual
def exR:S38->Int->MM->List S54->List S87->Bool×MM×List S54×List S87
 |⟨kd,k,ts,nm,p,tx,n,t,e,ak,name,text,q⟩,i,m,a,st =>
  if kd=1 then (if (tsT f rc fs sz ⟨k,ts,nm,p,tx,n⟩ m).1=true then exeL t (i+1) (tsT f rc fs sz ⟨k,ts,nm,p,tx,n⟩ m).2 a (st++[⟨i,true,noTx⟩]) else exeL e (i+1+szL t) (tsT f rc fs sz ⟨k,ts,nm,p,tx,n⟩ m).2 a (st++[⟨i,false,noTx⟩]))
  else if kd=2 then (true,m,a++[⟨ak,exT m text,q⟩],st++[⟨i,false,exT m text⟩])
  else if kd=3 then (true,putM m name (exT m text),a,st++[⟨i,false,exT m text⟩])
  else (false,m,a,st++[⟨i,false,noTx⟩])
def exeL:List S38->Int->MM->List S54->List S87->Bool×MM×List S54×List S87
 |[],_,m,a,st=>(true,m,a,st)
 |r::l,i,m,a,st=>if (exR r i m a st).1=true then exeL l (i+szR r) (exR r i m a st).2.1 (exR r i m a st).2.2.1 (exR r i m a st).2.2.2 else exR r i m a st
end
theorem exR_eq (r:S38) (i:Int) (m:MM) (a:List S54) (st:List S87):exR f rc fs sz r i m a st=if r.Kind=1 then (if (tsT f rc fs sz (tOf r) m).1=true then exeL f rc fs sz r.Then (i+1) (tsT f rc fs sz (tOf r) m).2 a (st++[⟨i,true,noTx⟩]) else exeL f rc fs sz r.Else (i+1+szL r.Then) (tsT f rc fs sz (tOf r) m).2 a (st++[⟨i,false,noTx⟩]))
  else if r.Kind=2 then (true,m,a++[⟨r.Act,exT m r.Text,r.N⟩],st++[⟨i,false,exT m r.Text⟩])
  else if r.Kind=3 then (true,putM m r.Name (exT m r.Text),a,st++[⟨i,false,exT m r.Text⟩])
  else (false,m,a,st++[⟨i,false,noTx⟩]):=by cases r;rw [exR];rfl
def exP (n:Nat) (a:List S54) (st:List S87) (q:Nat) (u:Bool×MM×List S54×List S87):Prop:=Inv (n+q) u.2.1/\u.2.2.1.length<=a.length+q/\u.2.2.2.length<=st.length+q
theorem qhi:∀ (q:Nat) (s:List S38),szL s=q->okvL s->∀ (n:Nat) (i:Int) (m:MM) (a:List S54) (st:List S87),Inv n m->exP n a st q (exeL f rc fs sz s i m a st):=by
 intro q;induction q using Nat.strongRecOn with
 |_ q ihq =>
  intro s;induction s with
  |nil =>
   intro hq hv n i m a st hI;rw [exeL];have:q=0:=by simpa [szL] using hq.symm
   subst this;exact ⟨hI,Nat.le_refl _,Nat.le_refl _⟩
  |cons r l ihl =>
   intro hq hv n i m a st hI;have hsz:szR r+szL l=q:=by simpa [szL] using hq
   have hr:=q1f4 r;obtain ⟨hh,hvt,hve⟩:=okvR hv (List.mem_cons_self ..);have hvl:okvL l:=by
    obtain ⟨n0,d0,m0,hn0,hc0⟩:=hv;unfold ckL at hc0;split at hc0
    ·cases hc0
    rename_i h100;split at hc0
    ·cases hc0
    rename_i hrc;cases hq:ckR r n0 d0 with
    |inl g=>rw [hq] at hc0;cases hc0
    |inr n2 =>
     rw [hq] at hc0;have:=(ck_sz (szL [r]) [r] rfl n0 d0 hn0).1 n2 (by simp only [ckL];rw [if_neg h100,if_neg hrc,hq])
     exact ⟨n2,d0,m0,this.2,hc0⟩
   obtain ⟨hk,htx,hvar,_⟩:=q11k hh;have h1:exP n a st (szR r) (exR f rc fs sz r i m a st):=by
    rw [exR_eq];split
    ·rename_i hk1
     have hI2:=q1in f rc fs sz n (tOf r) m hI;split
     ·obtain ⟨g1,g2,g3⟩:=ihq (szL r.Then) (by omega) r.Then rfl hvt n (i+1) _ a (st++[⟨i,true,noTx⟩]) hI2
      simp only [x12q,List.length_singleton] at g3;exact ⟨g1.mono (by omega),by omega,by omega⟩
     ·obtain ⟨g1,g2,g3⟩:=ihq (szL r.Else) (by omega) r.Else rfl hve n (i+1+szL r.Then) _ a (st++[⟨i,false,noTx⟩]) hI2
      simp only [x12q,List.length_singleton] at g3;exact ⟨g1.mono (by omega),by omega,by omega⟩
    ·split
     ·exact ⟨hI.mono (by omega),by simp;omega,by simp;omega⟩
     ·split
      ·rename_i hk3
       have hvb:=hvar hk3;have hne:r.Name.size≠0:=by unfold varB at hvb;simp at hvb;omega
       have:=hI.set (k:=r.Name) (v:=exT m r.Text) hne (by have:=qhj m r.Text;omega)
       exact ⟨this.mono (by omega),by simp,by simp;omega⟩
      ·exact ⟨hI.mono (by omega),by simp,by simp;omega⟩
   rw [exeL];obtain ⟨g1,g2,g3⟩:=h1;split
   ·obtain ⟨k1,k2,k3⟩:exP (n+szR r) (exR f rc fs sz r i m a st).2.2.1 (exR f rc fs sz r i m a st).2.2.2 (szL l) (exeL f rc fs sz l (i+szR r) (exR f rc fs sz r i m a st).2.1 (exR f rc fs sz r i m a st).2.2.1 (exR f rc fs sz r i m a st).2.2.2):=by
     exact ihq (szL l) (by omega) l rfl hvl (n+szR r) _ _ _ _ g1
    exact ⟨k1.mono (by omega),by omega,by omega⟩
   ·exact ⟨g1.mono (by omega),by omega,by omega⟩
end
theorem q1f1 (a b:List S38):szL (a++b)=szL a+szL b:=by
 induction a with
 |nil=>simp [szL]
 |cons r a ih=>simp only [y8q,szL,ih];omega
theorem q1f3 {l:List S38} {k:Nat} (h:k<l.length):szL (l.take (k+1))=szL (l.take k)+szR l[k]:=by rw [List.take_succ_eq_append_getElem h,q1f1];simp [szL]
theorem q1d0 (l:List S38) (hl:l.length<=big) (ih:∀ r∈l,q128 r.Then=some (IntKind.i64.wrap (szL r.Then))/\q128 r.Else=some (IntKind.i64.wrap (szL r.Else))) :
  ∀ m k,k+m=l.length->∃ x,q121 (IntKind.i64.wrap (szL (l.take k))) l l.length k=some x/\x.1.1=IntKind.i64.wrap (szL l):=by
 intro m;induction m with
 |zero =>
  intro k hk;have hk:k=l.length:=by omega
  subst hk
  refine ⟨((IntKind.i64.wrap (szL (l.take l.length)),l,(l.length:Int),(l.length:Int),false),()),q123 (by
   simp only [q127,gL,dL,eC,wI,p0,uL,q8c,qm1,x25q,x26q,x27q,qpu,q4y,q4z];simp),?_⟩
  simp
 |succ m ihm =>
  intro k hk;have hlt:k<l.length:=by omega
  obtain ⟨x,h1,h2⟩:=ihm (k+1) (by omega)
  obtain ⟨i1,i2⟩:=ih l[k] (y24q hlt);refine ⟨x,q123 ?_,h2⟩;simp only [q127,gL,dL,eC,wI,p0,uL,q8c,qm1,x25q,x26q,x27q,qpu,q4y,q4z];have e1:((k:Int)<(l.length:Int)):=by omega
  simp only [e1,decide_true,x20q,show (0:Int)<=(k:Int) by omega,x3q,hlt,x4q,qm4 hlt,i1,i2,x0q]
  have e2:IntKind.i64.wrap ((k:Int)+1)=((k+1:Nat):Int):=q1jr hlt (by unfold big at hl;omega)
  have e3:IntKind.i64.wrap (IntKind.i64.wrap (szL (l.take k))+IntKind.i64.wrap (IntKind.i64.wrap (1+IntKind.i64.wrap (szL l[k].Then))+IntKind.i64.wrap (szL l[k].Else)))=IntKind.i64.wrap (szL (l.take (k+1))):=by rw [q1f3 hlt,q1f4];simp only [q1jn,q1jo];congr 1 <;> omega
  rw [e2,e3];exact h1
theorem size_s (l:List S38) (hl:l.length<=big) (ho:okL l):q128 l=some (IntKind.i64.wrap (szL l)):=by
 generalize hn:szL l=n;induction n using Nat.strongRecOn generalizing l with
 |_ n ih =>
  subst hn;obtain ⟨x,h1,h2⟩:=q1d0 l hl (λr hr=>by
   have:=(okR_eq r).1 (qvz ho hr);exact ⟨ih _ (q1f6 hr) _ this.2.1.1 this.2.1.2 rfl,ih _ (q1f5 hr) _ this.2.2.1.1 this.2.2.1.2 rfl⟩) l.length 0 (by omega)
  refine q120 ?_;simp only [q129,gL,dL,lN,qm1,x25q,x26q,x27q];have e:q121 0 l l.length 0=some x:=h1
  simp [e,h2]
theorem q1cn {l:List S38} (h:(scrF l).1=0):∃ m,ckL l 0 1=.inr m/\m=szL l/\szL l<=100:=by
 unfold scrF at h;cases hc:ckL l 0 1 with
 |inl f=>rw [hc] at h;exact absurd h (ck_inl (by omega) hc)
 |inr m =>
  obtain ⟨a,b⟩:=ck_inr (by omega) hc
  exact ⟨m,rfl,by omega,by omega⟩
end Go.Proofs.YtmlcmoaonaomfaaGreatDoor
