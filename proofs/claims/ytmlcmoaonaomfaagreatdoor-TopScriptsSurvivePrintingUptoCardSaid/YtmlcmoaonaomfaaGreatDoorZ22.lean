/- The parser reads a test as specified. -/
import Derived.Test.YtmlcmoaonaomfaaGreatDoorZ21
namespace Go.Proofs.YtmlcmoaonaomfaaGreatDoor
open Go.RowKit
theorem q1f7 (b:BA) (a c o:Int) (s:BA) (bd:Bool) (r d ts:Int):q19j b a c o s bd r d ts=some ((),(),(),b,a,c,o,s,bd,r,d,IntKind.i64.wrap (ts - 1)):=q19l rfl
abbrev tz0:S35:=⟨0,[],noTx,0,noTx,0⟩
theorem q1hr (b:BA) (a c o:Int) (s:BA) (r d:Int) (ts:Nat) (ht:ts<=100):q19q b a c o s true r d (ts:Int)=some (tup tz0,tup tz0,b,a,c,o,s,true,r,d,(ts:Int)):=by
 have e0:qbp.decL []=[]:=rfl;have w1:IntKind.i64.wrap ((ts:Int)+1)=((ts+1:Nat):Int):=q1jr (n:=1000) (by omega) (by omega)
 have w2:IntKind.i64.wrap (((ts+1:Nat):Int) - 1)=(ts:Int):=by rw [q1jq (by omega)];omega
 refine q19s ?_;simp only [q19w,gL,dL,wI,q8c,qm1,qq1,x0q,x1q,x21q,q1f7,w1,w2,e0];split <;> rfl
theorem qqq (b:BA) (a c o:Int) (s:BA) (r d ts:Int) (W:List S35):q178 W.length b a c o s true r d ts W=some (((),W.length,false),(b,a,c,o,s,true,r,d,ts),W):=by refine q17a ?_;simp only [q17e,gL,dL,aL,dQ,q8c,qm1,x25q,x26q,all_35,apd_35,qq1,x0q,x1q,x21q,x20q]
section
variable (b:BA) (hb:b.size<=4000)
def PO (r dd ts:Int) (sp:Nat⊕(S35×List Tok)) (t:S35) (st:Pst):Prop:=match sp with
 |.inr y=>t=y.1/\∃ m z R,y.2=z::R/\At b m z R/\st=stP b m z false r dd ts
 |.inl o=>∃ m z,z.o=o/\st=stP b m z true r dd ts
def POs (r dd ts:Int) (W:List S35) (sp:Nat⊕(List S35×List Tok)) (l:List S35) (st:Pst):Prop:=match sp with
 |.inr y=>l=W++y.1/\∃ m z R,y.2=z::R/\At b m z R/\st=stP b m z false r dd ts
 |.inl o=>∃ m z,z.o=o/\st=stP b m z true r dd ts
def PT (f:Nat):Prop:=∀ (d n:Nat) (x:Tok) (R:List Tok) (r dd:Int),At b n x R->d<=8->2*(x::R).length+1<=f->(x::R).length<=4001 ->
 ∃ t st,q19q b ((n:Nat):Int) ((x.k:Nat):Int) ((x.o:Nat):Int) (baL x.s) false r dd (d:Int)=some (tup t,tup t,st)/\PO b r dd (d:Int) (sTest f (d+1) (x::R)) t st
def LL (f:Nat):Prop:=∀ (d n:Nat) (x:Tok) (R:List Tok) (r dd:Int) (W:List S35),At b n x R->d<=8->2*(x::R).length+1<=f->W.length+(x::R).length<=4001 ->
 ∃ l st,q178 W.length b ((n:Nat):Int) ((x.k:Nat):Int) ((x.o:Nat):Int) (baL x.s) false r dd (d:Int) W=some (((),l.length,false),st,l) /\
  (if isT 4 [44] (x::R)=true then POs b r dd (d:Int) W (sTests f (d+1) R) l st else l=W/\st=stP b n x false r dd (d:Int))
def PL (f:Nat):Prop:=∀ (d n:Nat) (x:Tok) (R:List Tok) (r dd:Int),At b n x R->d<=8->2*(x::R).length<=f->(x::R).length<=4001 ->
 ∃ l st,q175 b ((n:Nat):Int) ((x.k:Nat):Int) ((x.o:Nat):Int) (baL x.s) false r dd (d:Int)=some (l,l,st)/\POs b r dd (d:Int) [] (thn (sNeed [40] (x::R)) λr1=>thn (sTests f (d+1) r1) λy=>thn (sNeed [41] y.2) λr2=>.inr (y.1,r2)) l st
include hb
theorem qs0 {f:Nat} (ih:PT b f) (ihl:LL b f):LL b (f+1):=by
 intro d n x R r dd W hA hd hf hl;simp only [x9q] at hf hl;cases hc:isT 4 [44] (x::R) with
 |false =>
  have g3:=is_no (b:=b) (n:=n) hc r dd (d:Int);have g3:q16y 4 (ByteArray.mk (List.toArray [44])) b ((n:Nat):Int) ((x.k:Nat):Int) ((x.o:Nat):Int) (baL x.s) false r dd (d:Int)=some (false,false,b,((n:Nat):Int),((x.k:Nat):Int),((x.o:Nat):Int),baL x.s,false,r,dd,(d:Int)):=g3
  refine ⟨W,stP b n x false r dd (d:Int),q17a ?_,?_⟩
  ·simp only [q17e,gL,dL,aL,dQ,q8c,qm1,x25q,x26q,all_35,apd_35,g3,x0q,x1q,x21q,x20q]
  ·rw [if_neg (by simp)];exact ⟨rfl,rfl⟩
 |true =>
  simp only [eq_self,x20q];obtain ⟨m,y,R',rfl,g2,g3⟩:=qq2 hb hA (k:=4) rfl hc r dd (d:Int);have g3:q16y 4 (ByteArray.mk (List.toArray [44])) b ((n:Nat):Int) ((x.k:Nat):Int) ((x.o:Nat):Int) (baL x.s) false r dd (d:Int)=some (true,true,b,((m:Nat):Int),((y.k:Nat):Int),((y.o:Nat):Int),baL y.s,false,r,dd,(d:Int)):=g3
  simp only [x9q] at hf hl;obtain ⟨t,st,h1,h2⟩:=ih d m y R' r dd g2 hd (by simp only [x9q];omega) (by simp only [x9q];omega)
  have e1:decide ((W.length+1+(W.length+1) / 4+192)*80<=281474976710656)=true:=by simp;omega
  have e2:decide (W.length+1<=9223372036854775807)=true:=by simp;omega
  have eL:(W++[t]).length=W.length+1:=by simp
  have go:∀ z,q178 (W.length+1) st.1 st.2.1 st.2.2.1 st.2.2.2.1 st.2.2.2.2.1 st.2.2.2.2.2.1 st.2.2.2.2.2.2.1 st.2.2.2.2.2.2.2.1 st.2.2.2.2.2.2.2.2 (W++[t])=some z->q178 W.length b ((n:Nat):Int) ((x.k:Nat):Int) ((x.o:Nat):Int) (baL x.s) false r dd (d:Int) W=some z:=λz hz=>by refine q17a ?_;simp only [q17e,gL,dL,aL,dQ,q8c,qm1,x25q,x26q,all_35,apd_35,g3,h1,x0q,x20q,x9q,x8q,x13q,e1,e2,x17q,x23q,x19q,x4q,eta_T,hz]
  unfold sTests;cases hs:sTest f (d+1) (y::R') with
  |inl o =>
   rw [hs] at h2;obtain ⟨m2,z,z1,rfl⟩:=h2;have hd3:=qqq b ((m2:Nat):Int) ((z.k:Nat):Int) ((z.o:Nat):Int) (baL z.s) r dd (d:Int) (W++[t])
   rw [eL] at hd3;refine ⟨W++[t],stP b m2 z true r dd (d:Int),go _ ?_,m2,z,z1,rfl⟩;rw [eL];exact hd3
  |inr q =>
   have hlen:=qrp hs;rw [hs] at h2;obtain ⟨rfl,m2,z,R2,j1,j2,rfl⟩:=h2;simp only [thn];rw [j1] at hlen ⊢;simp only [x9q] at hlen;obtain ⟨l,st2,k1,k2⟩:=ihl d m2 z R2 r dd (W++[q.1]) j2 hd (by simp only [x9q];omega) (by rw [eL];simp only [x9q];omega)
   rw [eL] at k1;refine ⟨l,st2,go _ k1,?_⟩;cases hc2:isT 4 [44] (z::R2) with
   |false =>
    rw [hc2,if_neg (by simp)] at k2
    obtain ⟨rfl,rfl⟩:=k2;rw [if_neg (by simp)]
    exact ⟨rfl,m2,z,R2,rfl,j2,rfl⟩
   |true =>
    rw [hc2,if_pos rfl] at k2;rw [if_pos rfl];simp only [List.tail_cons];cases hs2:sTests f (d+1) R2 with
    |inl o=>rw [hs2] at k2;exact k2
    |inr w =>rw [hs2] at k2;obtain ⟨rfl,m3,z3,R3,q1,q2,rfl⟩:=k2;exact ⟨by simp,m3,z3,R3,q1,q2,rfl⟩
theorem qyi {f:Nat} (ih:PT b f) (ihl:LL b f):PL b (f+1):=by
 intro d n x R r dd hA hd hf hl;simp only [x9q] at hf hl;simp only [sNeed];cases hc:isT 4 [40] (x::R) with
 |false =>
  have g3:=quk (b:=b) (n:=n) hc r dd (d:Int);have g3:q17y (ByteArray.mk (List.toArray [40])) b ((n:Nat):Int) ((x.k:Nat):Int) ((x.o:Nat):Int) (baL x.s) false r dd (d:Int)=some ((),(),b,((n:Nat):Int),((x.k:Nat):Int),((x.o:Nat):Int),baL x.s,true,r,dd,(d:Int)):=g3
  have h1:=q1hr b ((n:Nat):Int) ((x.k:Nat):Int) ((x.o:Nat):Int) (baL x.s) r dd d (by omega)
  have h2:=qqq b ((n:Nat):Int) ((x.k:Nat):Int) ((x.o:Nat):Int) (baL x.s) r dd (d:Int) [tz0];have h2:q178 1 b ((n:Nat):Int) ((x.k:Nat):Int) ((x.o:Nat):Int) (baL x.s) true r dd (d:Int) [tz0]=some (((),[tz0].length,false),(b,((n:Nat):Int),((x.k:Nat):Int),((x.o:Nat):Int),baL x.s,true,r,dd,(d:Int)),[tz0]):=h2
  refine ⟨[tz0],stP b n x true r dd (d:Int),q177 ?_,n,x,rfl,rfl⟩;have one0:([[C.int .i64 0,C.sl (qbp.encL []),C.str noTx,C.int .i64 0,C.str noTx,C.int .i64 0]]:List (List C))=qbp.encL [tz0]:=one_T tz0
  simp only [q17i,gL,dL,qm1,x25q,x26q,one0,g3,h1,h2,x0q,x20q,quj]
 |true =>
  obtain ⟨m,y,R',rfl,g2,g3⟩:=qul hb hA hc r dd (d:Int);have g3:q17y (ByteArray.mk (List.toArray [40])) b ((n:Nat):Int) ((x.k:Nat):Int) ((x.o:Nat):Int) (baL x.s) false r dd (d:Int)=some ((),(),b,((m:Nat):Int),((y.k:Nat):Int),((y.o:Nat):Int),baL y.s,false,r,dd,(d:Int)):=g3
  simp only [x9q] at hf hl;obtain ⟨t,st,h1,h2⟩:=ih d m y R' r dd g2 hd (by simp only [x9q];omega) (by simp only [x9q];omega)
  have go:∀ (l:List S35) (st2 st3:Pst),q178 1 st.1 st.2.1 st.2.2.1 st.2.2.2.1 st.2.2.2.2.1 st.2.2.2.2.2.1 st.2.2.2.2.2.2.1 st.2.2.2.2.2.2.2.1 st.2.2.2.2.2.2.2.2 [t]=some (((),l.length,false),st2,l) ->
    q17y (ByteArray.mk (List.toArray [41])) st2.1 st2.2.1 st2.2.2.1 st2.2.2.2.1 st2.2.2.2.2.1 st2.2.2.2.2.2.1 st2.2.2.2.2.2.2.1 st2.2.2.2.2.2.2.2.1 st2.2.2.2.2.2.2.2.2=some ((),(),st3) ->
    q175 b ((n:Nat):Int) ((x.k:Nat):Int) ((x.o:Nat):Int) (baL x.s) false r dd (d:Int)=some (l,l,st3):=λl st2 st3 hz hn=>by
   refine q177 ?_;simp only [q17i,gL,dL,qm1,x25q,x26q,one_T,g3,h1,hz,hn,x0q,x20q]
  simp only [x20q,List.tail_cons,thn];unfold sTests;cases hs:sTest f (d+1) (y::R') with
  |inl o =>
   rw [hs] at h2;obtain ⟨m2,z,z1,rfl⟩:=h2;have hd3:=qqq b ((m2:Nat):Int) ((z.k:Nat):Int) ((z.o:Nat):Int) (baL z.s) r dd (d:Int) [t]
   exact ⟨[t],stP b m2 z true r dd (d:Int),go [t] (stP b m2 z true r dd (d:Int)) _ hd3 (quj _ _ _ _ _ _ _ _ _),m2,z,z1,rfl⟩
  |inr q =>
   have hlen:=qrp hs;rw [hs] at h2;obtain ⟨rfl,m2,z,R2,j1,j2,rfl⟩:=h2;simp only [thn];rw [j1] at hlen ⊢;simp only [x9q] at hlen;obtain ⟨l,st2,k1,k2⟩:=ihl d m2 z R2 r dd [q.1] j2 hd (by simp only [x9q];omega) (by simp only [x9q,x8q];omega)
   -- the closing bracket
   have fin:∀ (ts:List S35) (m3:Nat) (z3:Tok) (R3:List Tok),At b m3 z3 R3->st2=stP b m3 z3 false r dd (d:Int)->l=ts ->
     ∃ l st,q175 b ((n:Nat):Int) ((x.k:Nat):Int) ((x.o:Nat):Int) (baL x.s) false r dd (d:Int)=some (l,l,st)/\POs b r dd (d:Int) [] (thn (if isT 4 [41] (z3::R3)=true then Sum.inr ((z3::R3).tail) else Sum.inl (ofs (z3::R3))) λr2=>Sum.inr (ts,r2)) l st:=by
    intro ts m3 z3 R3 hA3 hst hlt;subst hst hlt;cases hc3:isT 4 [41] (z3::R3) with
    |false =>have n3:=quk (b:=b) (n:=m3) hc3 r dd (d:Int);exact ⟨l,_,go l _ _ k1 n3,m3,z3,rfl,rfl⟩
    |true =>obtain ⟨m4,z4,R4,rfl,q2,q3⟩:=qul hb hA3 hc3 r dd (d:Int);exact ⟨l,_,go l _ _ k1 q3,by simp,m4,z4,R4,rfl,q2,rfl⟩
   cases hc2:isT 4 [44] (z::R2) with
   |false =>
    rw [hc2,if_neg (by simp)] at k2
    obtain ⟨k3,k4⟩:=k2;rw [if_neg (by simp)]
    exact fin [q.1] m2 z R2 j2 k4 k3
   |true =>
    rw [hc2,if_pos rfl] at k2;rw [if_pos rfl];simp only [List.tail_cons];cases hs2:sTests f (d+1) R2 with
    |inl o =>rw [hs2] at k2;obtain ⟨m3,z3,z4,rfl⟩:=k2;exact ⟨l,stP b m3 z3 true r dd (d:Int),go l _ _ k1 (quj _ _ _ _ _ _ _ _ _),m3,z3,z4,rfl⟩
    |inr w =>rw [hs2] at k2;obtain ⟨k3,m3,z3,R3,q1,q2,k4⟩:=k2;simp only;rw [q1];exact fin (q.1::w.1) m3 z3 R3 q2 k4 (by rw [k3];rfl)
theorem qzp {f:Nat} (ih:PT b f) (ihl:PL b f):PT b (f+1):=by
 intro d n x R r dd hA hd hf hl;simp only [x9q] at hf hl;have e0:qbp.decL []=[]:=rfl
 have w1:IntKind.i64.wrap ((d:Int)+1)=((d+1:Nat):Int):=q1jr (n:=1000) (by omega) (by omega)
 have w2:IntKind.i64.wrap (((d+1:Nat):Int) - 1)=(d:Int):=by rw [q1jq (by omega)];omega
 unfold sTest;by_cases h8:8<d+1
 ·rw [if_pos (Or.inl h8)]
  have h8':((d+1:Nat):Int)>8:=by omega
  refine ⟨tz0,stP b n x true r dd (d:Int),q19s ?_,n,x,rfl,rfl⟩;simp only [q19w,gL,dL,wI,q8c,qm1,qq1,x0q,x1q,x21q,q1f7,w1,w2,e0,h8',decide_true,x20q]
 have h8':¬ ((d+1:Nat):Int)>8:=by omega
 have nos:∀ w:List UInt8,¬ (x.k=2/\x.s=w)->q16y 2 (baL w) b ((n:Nat):Int) ((x.k:Nat):Int) ((x.o:Nat):Int) (baL x.s) false r dd ((d+1:Nat):Int)=some (false,false,b,((n:Nat):Int),((x.k:Nat):Int),((x.o:Nat):Int),baL x.s,false,r,dd,((d+1:Nat):Int)):=λw hw =>
  is_no (k:=2) (R:=R) (by simp only [isT,y37q,beq_eq_false_iff_ne];by_cases e:x.k=2;exact .inr (λe2=>hw ⟨e,e2⟩);exact .inl e) r dd ((d+1:Nat):Int)
 have i1:¬ (x.k=2/\x.s=wTrue)->q16y 2 (ByteArray.mk (List.toArray [116,114,117,101])) b ((n:Nat):Int) ((x.k:Nat):Int) ((x.o:Nat):Int) (baL x.s) false r dd ((d+1:Nat):Int)=some (false,false,b,((n:Nat):Int),((x.k:Nat):Int),((x.o:Nat):Int),baL x.s,false,r,dd,((d+1:Nat):Int)):=nos wTrue;have i2:¬ (x.k=2/\x.s=wNot)->q16y 2 (ByteArray.mk (List.toArray [110,111,116])) b ((n:Nat):Int) ((x.k:Nat):Int) ((x.o:Nat):Int) (baL x.s) false r dd ((d+1:Nat):Int)=some (false,false,b,((n:Nat):Int),((x.k:Nat):Int),((x.o:Nat):Int),baL x.s,false,r,dd,((d+1:Nat):Int)):=nos wNot
 have i3:¬ (x.k=2/\x.s=wAll)->q16y 2 (ByteArray.mk (List.toArray [97,108,108])) b ((n:Nat):Int) ((x.k:Nat):Int) ((x.o:Nat):Int) (baL x.s) false r dd ((d+1:Nat):Int)=some (false,false,b,((n:Nat):Int),((x.k:Nat):Int),((x.o:Nat):Int),baL x.s,false,r,dd,((d+1:Nat):Int)):=nos wAll;have i4:¬ (x.k=2/\x.s=wAny)->q16y 2 (ByteArray.mk (List.toArray [97,110,121])) b ((n:Nat):Int) ((x.k:Nat):Int) ((x.o:Nat):Int) (baL x.s) false r dd ((d+1:Nat):Int)=some (false,false,b,((n:Nat):Int),((x.k:Nat):Int),((x.o:Nat):Int),baL x.s,false,r,dd,((d+1:Nat):Int)):=nos wAny
 have i5:¬ (x.k=2/\x.s=wHeader)->q16y 2 (ByteArray.mk (List.toArray [104,101,97,100,101,114])) b ((n:Nat):Int) ((x.k:Nat):Int) ((x.o:Nat):Int) (baL x.s) false r dd ((d+1:Nat):Int)=some (false,false,b,((n:Nat):Int),((x.k:Nat):Int),((x.o:Nat):Int),baL x.s,false,r,dd,((d+1:Nat):Int)):=nos wHeader;have i6:¬ (x.k=2/\x.s=wFrom)->q16y 2 (ByteArray.mk (List.toArray [102,114,111,109])) b ((n:Nat):Int) ((x.k:Nat):Int) ((x.o:Nat):Int) (baL x.s) false r dd ((d+1:Nat):Int)=some (false,false,b,((n:Nat):Int),((x.k:Nat):Int),((x.o:Nat):Int),baL x.s,false,r,dd,((d+1:Nat):Int)):=nos wFrom
 have i7:¬ (x.k=2/\x.s=wTo)->q16y 2 (ByteArray.mk (List.toArray [116,111])) b ((n:Nat):Int) ((x.k:Nat):Int) ((x.o:Nat):Int) (baL x.s) false r dd ((d+1:Nat):Int)=some (false,false,b,((n:Nat):Int),((x.k:Nat):Int),((x.o:Nat):Int),baL x.s,false,r,dd,((d+1:Nat):Int)):=nos wTo;have i8:¬ (x.k=2/\x.s=wSize)->q16y 2 (ByteArray.mk (List.toArray [115,105,122,101])) b ((n:Nat):Int) ((x.k:Nat):Int) ((x.o:Nat):Int) (baL x.s) false r dd ((d+1:Nat):Int)=some (false,false,b,((n:Nat):Int),((x.k:Nat):Int),((x.o:Nat):Int),baL x.s,false,r,dd,((d+1:Nat):Int)):=nos wSize
 have i9:¬ (x.k=2/\x.s=wExists)->q16y 2 (ByteArray.mk (List.toArray [101,120,105,115,116,115])) b ((n:Nat):Int) ((x.k:Nat):Int) ((x.o:Nat):Int) (baL x.s) false r dd ((d+1:Nat):Int)=some (false,false,b,((n:Nat):Int),((x.k:Nat):Int),((x.o:Nat):Int),baL x.s,false,r,dd,((d+1:Nat):Int)):=nos wExists;have none:(∀ i:Nat,1<=i->i<=9->testN x.s=i->¬ x.k=2)->∃ t st,q19q b ((n:Nat):Int) ((x.k:Nat):Int) ((x.o:Nat):Int) (baL x.s) false r dd (d:Int)=some (tup t,tup t,st)/\PO b r dd (d:Int) (.inl x.o) t st:=by
  intro hn;have hne:∀ (w:List UInt8) (i:Nat),1<=i->i<=9->testN w=i->¬ (x.k=2/\x.s=w):=λw i h1 h2 h3 h=>hn i h1 h2 (by rw [h.2];exact h3) h.1
  have j1:=i1 (hne wTrue 1 (by omega) (by omega) rfl)
  have j2:=i2 (hne wNot 2 (by omega) (by omega) rfl)
  have j3:=i3 (hne wAll 3 (by omega) (by omega) rfl)
  have j4:=i4 (hne wAny 4 (by omega) (by omega) rfl)
  have j5:=i5 (hne wHeader 5 (by omega) (by omega) rfl)
  have j6:=i6 (hne wFrom 6 (by omega) (by omega) rfl)
  have j7:=i7 (hne wTo 7 (by omega) (by omega) rfl)
  have j8:=i8 (hne wSize 8 (by omega) (by omega) rfl)
  have j9:=i9 (hne wExists 9 (by omega) (by omega) rfl)
  refine ⟨tz0,stP b n x true r dd (d:Int),q19s ?_,n,x,rfl,rfl⟩;simp only [q19w,gL,dL,wI,q8c,qm1,x0q,x1q,x21q,q1f7,w1,w2,e0,h8',decide_false,j1,j2,j3,j4,j5,j6,j7,j8,j9]
 by_cases hx:x.k=2
 case neg =>
  rw [if_pos (Or.inr hx)];exact none λ_ _ _ _=>hx
 rw [if_neg (by omega)]
 have hle:=q1hp x.s;by_cases h0:testN x.s=0
 ·simp only [h0]
  exact none λi h1 h2 h3=>by omega
 have word:∀ (w:List UInt8),testN x.s=testN w->(∀ u:List UInt8,testN u=testN w->testN w≠0->u=w)->x.s=w:=λw h1 h2=>h2 _ h1 (by omega)
 have hwds:x.s=wTrue∨x.s=wNot∨x.s=wAll∨x.s=wAny∨x.s=wHeader∨x.s=wFrom∨x.s=wTo∨x.s=wSize∨x.s=wExists:=by
  unfold testN at h0;by_cases q1:x.s=wTrue;· exact .inl q1
  by_cases q2:x.s=wNot;· exact .inr (.inl q2)
  by_cases q3:x.s=wAll;· exact .inr (.inr (.inl q3))
  by_cases q4:x.s=wAny;· exact .inr (.inr (.inr (.inl q4)))
  by_cases q5:x.s=wHeader;· exact .inr (.inr (.inr (.inr (.inl q5))))
  by_cases q6:x.s=wFrom;· exact .inr (.inr (.inr (.inr (.inr (.inl q6)))))
  by_cases q7:x.s=wTo;· exact .inr (.inr (.inr (.inr (.inr (.inr (.inl q7))))))
  by_cases q8:x.s=wSize;· exact .inr (.inr (.inr (.inr (.inr (.inr (.inr (.inl q8)))))))
  by_cases q9:x.s=wExists;· exact .inr (.inr (.inr (.inr (.inr (.inr (.inr (.inr q9)))))))
  simp [q1,q2,q3,q4,q5,q6,q7,q8,q9] at h0
 clear word;rcases hwds with hw|hw|hw|hw|hw|hw|hw|hw|hw
 ·have hN:testN x.s=1:=by rw [hw];rfl
  simp only [hN];obtain ⟨m,y,R',rfl,g2,g3⟩:=qq2 hb hA (k:=2) rfl (w:=wTrue) (by simp [isT,hx,hw]) r dd ((d+1:Nat):Int)
  have g3:q16y 2 (ByteArray.mk (List.toArray [116,114,117,101])) b ((n:Nat):Int) ((x.k:Nat):Int) ((x.o:Nat):Int) (baL x.s) false r dd ((d+1:Nat):Int)=some (true,true,b,((m:Nat):Int),((y.k:Nat):Int),((y.o:Nat):Int),baL y.s,false,r,dd,((d+1:Nat):Int)):=g3;simp only [x9q] at hf hl;refine ⟨tst 1 [] [] 0 [] 0,stP b m y false r dd (d:Int),q19s ?_,rfl,m,y,R',rfl,g2,rfl⟩;simp only [q19w,gL,dL,wI,q8c,qm1,x25q,x26q,x0q,x1q,x21q,x20q,q1f7,w1,w2,e0,h8',decide_false,g3];rfl
 ·have hN:testN x.s=2:=by rw [hw];rfl
  simp only [hN];have j1:=i1 (λe=>absurd (hw.symm.trans e.2) (by decide))
  obtain ⟨m,y,R',rfl,g2,g3⟩:=qq2 hb hA (k:=2) rfl (w:=wNot) (by simp [isT,hx,hw]) r dd ((d+1:Nat):Int)
  have g3:q16y 2 (ByteArray.mk (List.toArray [110,111,116])) b ((n:Nat):Int) ((x.k:Nat):Int) ((x.o:Nat):Int) (baL x.s) false r dd ((d+1:Nat):Int)=some (true,true,b,((m:Nat):Int),((y.k:Nat):Int),((y.o:Nat):Int),baL y.s,false,r,dd,((d+1:Nat):Int)):=g3;simp only [x9q] at hf hl;obtain ⟨t,st,h1,h2⟩:=ih (d+1) m y R' r dd g2 (by omega) (by simp only [x9q];omega) (by simp only [x9q];omega)
  have go:∀ (m2:Nat) (z:Tok) (bd:Bool),st=stP b m2 z bd r dd ((d+1:Nat):Int)->q19q b ((n:Nat):Int) ((x.k:Nat):Int) ((x.o:Nat):Int) (baL x.s) false r dd (d:Int)=some (tup (tst 2 [t] [] 0 [] 0),tup (tst 2 [t] [] 0 [] 0),stP b m2 z bd r dd (d:Int)):=λm2 z bd hst=>by subst hst;refine q19s ?_;simp only [q19w,gL,dL,wI,q8c,qm1,x25q,x26q,x0q,x1q,x21q,x20q,q1f7,w1,w2,e0,h8',decide_false,g3,j1,h1,one_T];rfl
  cases hs:sTest f (d+1+1) (y::R') with
  |inl o =>rw [hs] at h2;obtain ⟨m2,z,z1,hst⟩:=h2;exact ⟨_,_,go m2 z true hst,m2,z,z1,rfl⟩
  |inr q =>rw [hs] at h2;obtain ⟨rfl,m2,z,R2,u1,u2,hst⟩:=h2;exact ⟨_,_,go m2 z false hst,rfl,m2,z,R2,u1,u2,rfl⟩
 ·have hN:testN x.s=3:=by rw [hw];rfl
  simp only [hN];have j1:=i1 (λe=>absurd (hw.symm.trans e.2) (by decide))
  have j2:=i2 (λe=>absurd (hw.symm.trans e.2) (by decide))
  obtain ⟨m,y,R',rfl,g2,g3⟩:=qq2 hb hA (k:=2) rfl (w:=wAll) (by simp [isT,hx,hw]) r dd ((d+1:Nat):Int)
  have g3:q16y 2 (ByteArray.mk (List.toArray [97,108,108])) b ((n:Nat):Int) ((x.k:Nat):Int) ((x.o:Nat):Int) (baL x.s) false r dd ((d+1:Nat):Int)=some (true,true,b,((m:Nat):Int),((y.k:Nat):Int),((y.o:Nat):Int),baL y.s,false,r,dd,((d+1:Nat):Int)):=g3;simp only [x9q] at hf hl;obtain ⟨l,st,h1,h2⟩:=ihl (d+1) m y R' r dd g2 (by omega) (by simp only [x9q];omega) (by simp only [x9q];omega)
  have go:∀ (m2:Nat) (z:Tok) (bd:Bool),st=stP b m2 z bd r dd ((d+1:Nat):Int)->q19q b ((n:Nat):Int) ((x.k:Nat):Int) ((x.o:Nat):Int) (baL x.s) false r dd (d:Int)=some (tup (tst 3 l [] 0 [] 0),tup (tst 3 l [] 0 [] 0),stP b m2 z bd r dd (d:Int)):=λm2 z bd hst=>by subst hst;refine q19s ?_;simp only [q19w,gL,dL,wI,q8c,qm1,x25q,x26q,x0q,x1q,x21q,x20q,q1f7,w1,w2,e0,h8',decide_false,g3,j1,j2,h1];rfl
  cases hs1:sNeed [40] (y::R') with
  |inl o =>rw [hs1] at h2;obtain ⟨m2,z,z1,hst⟩:=h2;exact ⟨_,_,go m2 z true hst,m2,z,z1,rfl⟩
  |inr r1 =>
   rw [hs1] at h2;dsimp only [thn] at h2 ⊢;cases hs2:sTests f (d+1+1) r1 with
   |inl o =>rw [hs2] at h2;obtain ⟨m2,z,z1,hst⟩:=h2;exact ⟨_,_,go m2 z true hst,m2,z,z1,rfl⟩
   |inr q =>
    rw [hs2] at h2;dsimp only at h2 ⊢;cases hs3:sNeed [41] q.2 with
    |inl o =>rw [hs3] at h2;obtain ⟨m2,z,z1,hst⟩:=h2;exact ⟨_,_,go m2 z true hst,m2,z,z1,rfl⟩
    |inr r2 =>rw [hs3] at h2;obtain ⟨hl2,m2,z,R2,u1,u2,hst⟩:=h2;exact ⟨_,_,go m2 z false hst,by rw [hl2];rfl,m2,z,R2,u1,u2,rfl⟩
 ·have hN:testN x.s=4:=by rw [hw];rfl
  simp only [hN];have j1:=i1 (λe=>absurd (hw.symm.trans e.2) (by decide))
  have j2:=i2 (λe=>absurd (hw.symm.trans e.2) (by decide))
  have j3:=i3 (λe=>absurd (hw.symm.trans e.2) (by decide))
  obtain ⟨m,y,R',rfl,g2,g3⟩:=qq2 hb hA (k:=2) rfl (w:=wAny) (by simp [isT,hx,hw]) r dd ((d+1:Nat):Int)
  have g3:q16y 2 (ByteArray.mk (List.toArray [97,110,121])) b ((n:Nat):Int) ((x.k:Nat):Int) ((x.o:Nat):Int) (baL x.s) false r dd ((d+1:Nat):Int)=some (true,true,b,((m:Nat):Int),((y.k:Nat):Int),((y.o:Nat):Int),baL y.s,false,r,dd,((d+1:Nat):Int)):=g3;simp only [x9q] at hf hl;obtain ⟨l,st,h1,h2⟩:=ihl (d+1) m y R' r dd g2 (by omega) (by simp only [x9q];omega) (by simp only [x9q];omega)
  have go:∀ (m2:Nat) (z:Tok) (bd:Bool),st=stP b m2 z bd r dd ((d+1:Nat):Int)->q19q b ((n:Nat):Int) ((x.k:Nat):Int) ((x.o:Nat):Int) (baL x.s) false r dd (d:Int)=some (tup (tst 4 l [] 0 [] 0),tup (tst 4 l [] 0 [] 0),stP b m2 z bd r dd (d:Int)):=λm2 z bd hst=>by subst hst;refine q19s ?_;simp only [q19w,gL,dL,wI,q8c,qm1,x25q,x26q,x0q,x1q,x21q,x20q,q1f7,w1,w2,e0,h8',decide_false,g3,j1,j2,j3,h1];rfl
  cases hs1:sNeed [40] (y::R') with
  |inl o =>rw [hs1] at h2;obtain ⟨m2,z,z1,hst⟩:=h2;exact ⟨_,_,go m2 z true hst,m2,z,z1,rfl⟩
  |inr r1 =>
   rw [hs1] at h2;dsimp only [thn] at h2 ⊢;cases hs2:sTests f (d+1+1) r1 with
   |inl o =>rw [hs2] at h2;obtain ⟨m2,z,z1,hst⟩:=h2;exact ⟨_,_,go m2 z true hst,m2,z,z1,rfl⟩
   |inr q =>
    rw [hs2] at h2;dsimp only at h2 ⊢;cases hs3:sNeed [41] q.2 with
    |inl o =>rw [hs3] at h2;obtain ⟨m2,z,z1,hst⟩:=h2;exact ⟨_,_,go m2 z true hst,m2,z,z1,rfl⟩
    |inr r2 =>rw [hs3] at h2;obtain ⟨hl2,m2,z,R2,u1,u2,hst⟩:=h2;exact ⟨_,_,go m2 z false hst,by rw [hl2];rfl,m2,z,R2,u1,u2,rfl⟩
 ·have hN:testN x.s=5:=by rw [hw];rfl
  simp only [hN];have j1:=i1 (λe=>absurd (hw.symm.trans e.2) (by decide))
  have j2:=i2 (λe=>absurd (hw.symm.trans e.2) (by decide))
  have j3:=i3 (λe=>absurd (hw.symm.trans e.2) (by decide))
  have j4:=i4 (λe=>absurd (hw.symm.trans e.2) (by decide))
  obtain ⟨m,y,R',rfl,g2,g3⟩:=qq2 hb hA (k:=2) rfl (w:=wHeader) (by simp [isT,hx,hw]) r dd ((d+1:Nat):Int)
  have g3:q16y 2 (ByteArray.mk (List.toArray [104,101,97,100,101,114])) b ((n:Nat):Int) ((x.k:Nat):Int) ((x.o:Nat):Int) (baL x.s) false r dd ((d+1:Nat):Int)=some (true,true,b,((m:Nat):Int),((y.k:Nat):Int),((y.o:Nat):Int),baL y.s,false,r,dd,((d+1:Nat):Int)):=g3;simp only [x9q] at hf hl;simp only [sTake];by_cases hy:y.k=1
  ·obtain ⟨m2,z,R2,rfl,q2,q3⟩:=q1ho hb g2 (k:=1) rfl hy r dd ((d+1:Nat):Int)
   have q3:q19c 1 b ((m:Nat):Int) ((y.k:Nat):Int) ((y.o:Nat):Int) (baL y.s) false r dd ((d+1:Nat):Int)=some (baL y.s,baL y.s,b,((m2:Nat):Int),((z.k:Nat):Int),((z.o:Nat):Int),baL z.s,false,r,dd,((d+1:Nat):Int)):=q3;rw [if_pos hy];dsimp only [thn];have hm:=mat_s 5 0 (baL y.s) 0 noTx 0 [] hb q2 r dd ((d+1:Nat):Int)
   cases hs:sMatch (z::R2) with
   |inl o =>
    rw [hs] at hm;obtain ⟨m3,z3,p,tx,rfl,h1⟩:=hm;have h1:q17j b ((m2:Nat):Int) ((z.k:Nat):Int) ((z.o:Nat):Int) (baL z.s) false r dd ((d+1:Nat):Int) 5 0 (baL y.s) 0 noTx 0 []=some ((),(),(b,((m3:Nat):Int),((z3.k:Nat):Int),((z3.o:Nat):Int),baL z3.s,true,r,dd,((d+1:Nat):Int)),(5,0,baL y.s,p,tx,0),[]):=h1
    refine ⟨⟨5,[],baL y.s,p,tx,0⟩,stP b m3 z3 true r dd (d:Int),q19s ?_,m3,z3,rfl,rfl⟩;simp only [q19w,gL,dL,wI,q8c,qm1,x25q,x26q,x0q,x1q,x21q,x20q,q1f7,w1,w2,e0,h8',decide_false,g3,j1,j2,j3,j4,q3,h1]
   |inr q =>
    rw [hs] at hm;obtain ⟨m3,z3,R3,u1,u2,h1⟩:=hm;have h1:q17j b ((m2:Nat):Int) ((z.k:Nat):Int) ((z.o:Nat):Int) (baL z.s) false r dd ((d+1:Nat):Int) 5 0 (baL y.s) 0 noTx 0 []=some ((),(),(b,((m3:Nat):Int),((z3.k:Nat):Int),((z3.o:Nat):Int),baL z3.s,false,r,dd,((d+1:Nat):Int)),(5,0,baL y.s,((q.1.1:Nat):Int),baL q.1.2,0),[]):=h1
    refine ⟨tst 5 [] y.s q.1.1 q.1.2 0,stP b m3 z3 false r dd (d:Int),q19s ?_,rfl,m3,z3,R3,u1,u2,rfl⟩;simp only [q19w,gL,dL,wI,q8c,qm1,x25q,x26q,x0q,x1q,x21q,x20q,q1f7,w1,w2,e0,h8',decide_false,g3,j1,j2,j3,j4,q3,h1];rfl
  ·have q3:=q1hm (b:=b) (n:=m) (k:=1) hy r dd ((d+1:Nat):Int)
   have q3:q19c 1 b ((m:Nat):Int) ((y.k:Nat):Int) ((y.o:Nat):Int) (baL y.s) false r dd ((d+1:Nat):Int)=some (noTx,noTx,b,((m:Nat):Int),((y.k:Nat):Int),((y.o:Nat):Int),baL y.s,true,r,dd,((d+1:Nat):Int)):=q3;rw [if_neg hy];have h1:=qsz b 5 0 noTx 0 noTx 0 [] ((m:Nat):Int) ((y.k:Nat):Int) ((y.o:Nat):Int) (baL y.s) r dd ((d+1:Nat):Int)
   refine ⟨⟨5,[],noTx,0,noTx,0⟩,stP b m y true r dd (d:Int),q19s ?_,m,y,rfl,rfl⟩;simp only [q19w,gL,dL,wI,q8c,qm1,x25q,x26q,x0q,x1q,x21q,x20q,q1f7,w1,w2,e0,h8',decide_false,g3,j1,j2,j3,j4,q3,h1]
 ·have hN:testN x.s=6:=by rw [hw];rfl
  simp only [hN];have j1:=i1 (λe=>absurd (hw.symm.trans e.2) (by decide))
  have j2:=i2 (λe=>absurd (hw.symm.trans e.2) (by decide))
  have j3:=i3 (λe=>absurd (hw.symm.trans e.2) (by decide))
  have j4:=i4 (λe=>absurd (hw.symm.trans e.2) (by decide))
  have j5:=i5 (λe=>absurd (hw.symm.trans e.2) (by decide))
  obtain ⟨m,y,R',rfl,g2,g3⟩:=qq2 hb hA (k:=2) rfl (w:=wFrom) (by simp [isT,hx,hw]) r dd ((d+1:Nat):Int)
  have g3:q16y 2 (ByteArray.mk (List.toArray [102,114,111,109])) b ((n:Nat):Int) ((x.k:Nat):Int) ((x.o:Nat):Int) (baL x.s) false r dd ((d+1:Nat):Int)=some (true,true,b,((m:Nat):Int),((y.k:Nat):Int),((y.o:Nat):Int),baL y.s,false,r,dd,((d+1:Nat):Int)):=g3;simp only [x9q] at hf hl;have hm:=mat_s 6 0 noTx 0 noTx 0 [] hb g2 r dd ((d+1:Nat):Int)
  cases hs:sMatch (y::R') with
  |inl o =>
   rw [hs] at hm;obtain ⟨m2,z,p,tx,rfl,h1⟩:=hm;have h1:q17j b ((m:Nat):Int) ((y.k:Nat):Int) ((y.o:Nat):Int) (baL y.s) false r dd ((d+1:Nat):Int) 6 0 noTx 0 noTx 0 []=some ((),(),(b,((m2:Nat):Int),((z.k:Nat):Int),((z.o:Nat):Int),baL z.s,true,r,dd,((d+1:Nat):Int)),(6,0,noTx,p,tx,0),[]):=h1
   refine ⟨⟨6,[],noTx,p,tx,0⟩,stP b m2 z true r dd (d:Int),q19s ?_,m2,z,rfl,rfl⟩;simp only [q19w,gL,dL,wI,q8c,qm1,x25q,x26q,x0q,x1q,x21q,x20q,q1f7,w1,w2,e0,h8',decide_false,g3,j1,j2,j3,j4,j5,h1]
  |inr q =>
   rw [hs] at hm;obtain ⟨m2,z,R2,u1,u2,h1⟩:=hm;have h1:q17j b ((m:Nat):Int) ((y.k:Nat):Int) ((y.o:Nat):Int) (baL y.s) false r dd ((d+1:Nat):Int) 6 0 noTx 0 noTx 0 []=some ((),(),(b,((m2:Nat):Int),((z.k:Nat):Int),((z.o:Nat):Int),baL z.s,false,r,dd,((d+1:Nat):Int)),(6,0,noTx,((q.1.1:Nat):Int),baL q.1.2,0),[]):=h1
   refine ⟨tst 6 [] [] q.1.1 q.1.2 0,stP b m2 z false r dd (d:Int),q19s ?_,rfl,m2,z,R2,u1,u2,rfl⟩;simp only [q19w,gL,dL,wI,q8c,qm1,x25q,x26q,x0q,x1q,x21q,x20q,q1f7,w1,w2,e0,h8',decide_false,g3,j1,j2,j3,j4,j5,h1];rfl
 ·have hN:testN x.s=7:=by rw [hw];rfl
  simp only [hN];have j1:=i1 (λe=>absurd (hw.symm.trans e.2) (by decide))
  have j2:=i2 (λe=>absurd (hw.symm.trans e.2) (by decide))
  have j3:=i3 (λe=>absurd (hw.symm.trans e.2) (by decide))
  have j4:=i4 (λe=>absurd (hw.symm.trans e.2) (by decide))
  have j5:=i5 (λe=>absurd (hw.symm.trans e.2) (by decide))
  have j6:=i6 (λe=>absurd (hw.symm.trans e.2) (by decide))
  obtain ⟨m,y,R',rfl,g2,g3⟩:=qq2 hb hA (k:=2) rfl (w:=wTo) (by simp [isT,hx,hw]) r dd ((d+1:Nat):Int)
  have g3:q16y 2 (ByteArray.mk (List.toArray [116,111])) b ((n:Nat):Int) ((x.k:Nat):Int) ((x.o:Nat):Int) (baL x.s) false r dd ((d+1:Nat):Int)=some (true,true,b,((m:Nat):Int),((y.k:Nat):Int),((y.o:Nat):Int),baL y.s,false,r,dd,((d+1:Nat):Int)):=g3;simp only [x9q] at hf hl;have hm:=mat_s 7 0 noTx 0 noTx 0 [] hb g2 r dd ((d+1:Nat):Int)
  cases hs:sMatch (y::R') with
  |inl o =>
   rw [hs] at hm;obtain ⟨m2,z,p,tx,rfl,h1⟩:=hm;have h1:q17j b ((m:Nat):Int) ((y.k:Nat):Int) ((y.o:Nat):Int) (baL y.s) false r dd ((d+1:Nat):Int) 7 0 noTx 0 noTx 0 []=some ((),(),(b,((m2:Nat):Int),((z.k:Nat):Int),((z.o:Nat):Int),baL z.s,true,r,dd,((d+1:Nat):Int)),(7,0,noTx,p,tx,0),[]):=h1
   refine ⟨⟨7,[],noTx,p,tx,0⟩,stP b m2 z true r dd (d:Int),q19s ?_,m2,z,rfl,rfl⟩;simp only [q19w,gL,dL,wI,q8c,qm1,x25q,x26q,x0q,x1q,x21q,x20q,q1f7,w1,w2,e0,h8',decide_false,g3,j1,j2,j3,j4,j5,j6,h1]
  |inr q =>
   rw [hs] at hm;obtain ⟨m2,z,R2,u1,u2,h1⟩:=hm;have h1:q17j b ((m:Nat):Int) ((y.k:Nat):Int) ((y.o:Nat):Int) (baL y.s) false r dd ((d+1:Nat):Int) 7 0 noTx 0 noTx 0 []=some ((),(),(b,((m2:Nat):Int),((z.k:Nat):Int),((z.o:Nat):Int),baL z.s,false,r,dd,((d+1:Nat):Int)),(7,0,noTx,((q.1.1:Nat):Int),baL q.1.2,0),[]):=h1
   refine ⟨tst 7 [] [] q.1.1 q.1.2 0,stP b m2 z false r dd (d:Int),q19s ?_,rfl,m2,z,R2,u1,u2,rfl⟩;simp only [q19w,gL,dL,wI,q8c,qm1,x25q,x26q,x0q,x1q,x21q,x20q,q1f7,w1,w2,e0,h8',decide_false,g3,j1,j2,j3,j4,j5,j6,h1];rfl
 ·have hN:testN x.s=8:=by rw [hw];rfl
  simp only [hN];have j1:=i1 (λe=>absurd (hw.symm.trans e.2) (by decide))
  have j2:=i2 (λe=>absurd (hw.symm.trans e.2) (by decide))
  have j3:=i3 (λe=>absurd (hw.symm.trans e.2) (by decide))
  have j4:=i4 (λe=>absurd (hw.symm.trans e.2) (by decide))
  have j5:=i5 (λe=>absurd (hw.symm.trans e.2) (by decide))
  have j6:=i6 (λe=>absurd (hw.symm.trans e.2) (by decide))
  have j7:=i7 (λe=>absurd (hw.symm.trans e.2) (by decide))
  obtain ⟨m,y,R',rfl,g2,g3⟩:=qq2 hb hA (k:=2) rfl (w:=wSize) (by simp [isT,hx,hw]) r dd ((d+1:Nat):Int)
  have g3:q16y 2 (ByteArray.mk (List.toArray [115,105,122,101])) b ((n:Nat):Int) ((x.k:Nat):Int) ((x.o:Nat):Int) (baL x.s) false r dd ((d+1:Nat):Int)=some (true,true,b,((m:Nat):Int),((y.k:Nat):Int),((y.o:Nat):Int),baL y.s,false,r,dd,((d+1:Nat):Int)):=g3;simp only [x9q] at hf hl;have hn:=num_s hb g2 r dd ((d+1:Nat):Int)
  cases hs:sNum (y::R') with
  |inl o =>
   rw [hs] at hn;obtain ⟨rfl,h1⟩:=hn;have h1:q185 b ((m:Nat):Int) ((y.k:Nat):Int) ((y.o:Nat):Int) (baL y.s) false r dd ((d+1:Nat):Int)=some (0,0,b,((m:Nat):Int),((y.k:Nat):Int),((y.o:Nat):Int),baL y.s,true,r,dd,((d+1:Nat):Int)):=h1
   refine ⟨⟨8,[],noTx,0,noTx,0⟩,stP b m y true r dd (d:Int),q19s ?_,m,y,rfl,rfl⟩;simp only [q19w,gL,dL,wI,q8c,qm1,x25q,x26q,x0q,x1q,x21q,x20q,q1f7,w1,w2,e0,h8',decide_false,g3,j1,j2,j3,j4,j5,j6,j7,h1]
  |inr q =>
   rw [hs] at hn;obtain ⟨m2,z,R2,u1,u2,h1⟩:=hn;have h1:q185 b ((m:Nat):Int) ((y.k:Nat):Int) ((y.o:Nat):Int) (baL y.s) false r dd ((d+1:Nat):Int)=some (((q.1:Nat):Int),((q.1:Nat):Int),b,((m2:Nat):Int),((z.k:Nat):Int),((z.o:Nat):Int),baL z.s,false,r,dd,((d+1:Nat):Int)):=h1
   refine ⟨tst 8 [] [] 0 [] q.1,stP b m2 z false r dd (d:Int),q19s ?_,rfl,m2,z,R2,u1,u2,rfl⟩;simp only [q19w,gL,dL,wI,q8c,qm1,x25q,x26q,x0q,x1q,x21q,x20q,q1f7,w1,w2,e0,h8',decide_false,g3,j1,j2,j3,j4,j5,j6,j7,h1];rfl
 ·have hN:testN x.s=9:=by rw [hw];rfl
  simp only [hN];have j1:=i1 (λe=>absurd (hw.symm.trans e.2) (by decide))
  have j2:=i2 (λe=>absurd (hw.symm.trans e.2) (by decide))
  have j3:=i3 (λe=>absurd (hw.symm.trans e.2) (by decide))
  have j4:=i4 (λe=>absurd (hw.symm.trans e.2) (by decide))
  have j5:=i5 (λe=>absurd (hw.symm.trans e.2) (by decide))
  have j6:=i6 (λe=>absurd (hw.symm.trans e.2) (by decide))
  have j7:=i7 (λe=>absurd (hw.symm.trans e.2) (by decide))
  have j8:=i8 (λe=>absurd (hw.symm.trans e.2) (by decide))
  obtain ⟨m,y,R',rfl,g2,g3⟩:=qq2 hb hA (k:=2) rfl (w:=wExists) (by simp [isT,hx,hw]) r dd ((d+1:Nat):Int)
  have g3:q16y 2 (ByteArray.mk (List.toArray [101,120,105,115,116,115])) b ((n:Nat):Int) ((x.k:Nat):Int) ((x.o:Nat):Int) (baL x.s) false r dd ((d+1:Nat):Int)=some (true,true,b,((m:Nat):Int),((y.k:Nat):Int),((y.o:Nat):Int),baL y.s,false,r,dd,((d+1:Nat):Int)):=g3;simp only [x9q] at hf hl;simp only [sTake];by_cases hy:y.k=1
  ·obtain ⟨m2,z,R2,rfl,q2,q3⟩:=q1ho hb g2 (k:=1) rfl hy r dd ((d+1:Nat):Int)
   have q3:q19c 1 b ((m:Nat):Int) ((y.k:Nat):Int) ((y.o:Nat):Int) (baL y.s) false r dd ((d+1:Nat):Int)=some (baL y.s,baL y.s,b,((m2:Nat):Int),((z.k:Nat):Int),((z.o:Nat):Int),baL z.s,false,r,dd,((d+1:Nat):Int)):=q3;rw [if_pos hy];refine ⟨tst 9 [] y.s 0 [] 0,stP b m2 z false r dd (d:Int),q19s ?_,rfl,m2,z,R2,rfl,q2,rfl⟩;simp only [q19w,gL,dL,wI,q8c,qm1,x25q,x26q,x0q,x1q,x21q,x20q,q1f7,w1,w2,e0,h8',decide_false,g3,j1,j2,j3,j4,j5,j6,j7,j8,q3];rfl
  ·have q3:=q1hm (b:=b) (n:=m) (k:=1) hy r dd ((d+1:Nat):Int)
   have q3:q19c 1 b ((m:Nat):Int) ((y.k:Nat):Int) ((y.o:Nat):Int) (baL y.s) false r dd ((d+1:Nat):Int)=some (noTx,noTx,b,((m:Nat):Int),((y.k:Nat):Int),((y.o:Nat):Int),baL y.s,true,r,dd,((d+1:Nat):Int)):=q3;rw [if_neg hy];refine ⟨⟨9,[],noTx,0,noTx,0⟩,stP b m y true r dd (d:Int),q19s ?_,m,y,rfl,rfl⟩;simp only [q19w,gL,dL,wI,q8c,qm1,x25q,x26q,x0q,x1q,x21q,x20q,q1f7,w1,w2,e0,h8',decide_false,g3,j1,j2,j3,j4,j5,j6,j7,j8,q3]
theorem pt_all:∀ f,PT b f/\LL b f/\PL b f
 |0=>⟨λd n x R r dd _ _ h=>by omega,λd n x R r dd W _ _ h=>by omega,λd n x R r dd _ _ h=>by simp only [x9q] at h;omega⟩
 |f+1=>⟨qzp b hb (pt_all f).1 (pt_all f).2.2,qs0 b hb (pt_all f).1 (pt_all f).2.1,qyi b hb (pt_all f).1 (pt_all f).2.1⟩
end
end Go.Proofs.YtmlcmoaonaomfaaGreatDoor
namespace Go.Proofs.YtmlcmoaonaomfaaGreatDoor
open Go.RowKit
theorem qy:q137=some (baL wKeep,baL wFile,baL wDiscard,baL wRedirect,baL wReject,baL wFlag,baL wReply):=q136 rfl
def ruA (act:Int) (tx:BA) (n:Int):S38:=⟨2,0,[],noTx,0,noTx,0,[],[],act,noTx,tx,n⟩
section
variable (b:BA) (a c o:Int) (s:BA) (bd:Bool) (r d ts:Int)
noncomputable abbrev AL (k:Int):=q15b (baL wKeep) (baL wFile) (baL wDiscard) (baL wRedirect) (baL wReject) (baL wFlag) (baL wReply) k b a c o s bd r d ts 0 0 0 noTx 0 noTx 0 0 0 0 noTx noTx 0 2 0 0 noTx 0 noTx 0 0 0 0 noTx noTx 0 [] [] [] [] [] []
theorem al_7:AL b a c o s bd r d ts 7=some (.inr (((),(),(),(baL wKeep,baL wFile,baL wDiscard,baL wRedirect,baL wReject,baL wFlag,baL wReply),7,false),(b,a,c,o,s,bd,r,d,ts),(0,0,0,noTx,0,noTx,0,0,0,0,noTx,noTx,0),(2,0,0,noTx,0,noTx,0,0,0,0,noTx,noTx,0),[],[],[],[],[],[]) ):=by refine q15d ?_;simp only [q15i,gL,dL,wI,p0,q8c,qm1,x25q,x26q,show ¬ (7:Int)<7 by omega,decide_false,x1q,x21q,x20q]
variable {b a c o s bd r d ts}
theorem q1c {k:Nat} (hk:k<7) {w:List UInt8} (hw:[baL wKeep,baL wFile,baL wDiscard,baL wRedirect,baL wReject,baL wFlag,baL wReply].getD k ByteArray.empty=baL w) (hi:q16y 2 (baL w) b a c o s bd r d ts=some (false,false,b,a,c,o,s,bd,r,d,ts)) {z}
  (hn:AL b a c o s bd r d ts ((k+1:Nat):Int)=some z):AL b a c o s bd r d ts (k:Int)=some z:=by
 have w1:IntKind.i64.wrap ((k:Int)+1)=((k+1:Nat):Int):=q1jr (n:=10) (by omega) (by omega)
 refine q15d ?_;simp only [q15i,gL,dL,wI,p0,q8c,qm1,x25q,x26q,show (k:Int)<7 by omega,show (k:Int)<((7:Nat):Int) by omega,show (0:Int)<=(k:Int) by omega,decide_true,x3q,x9q,x8q,x13q,Nat.reduceAdd,hk,x4q,x20q,hw,hi,x0q,x11q,w1,hn]
variable {a1 c1 o1:Int} {s1:BA} {bd1:Bool} {r1 d1 ts1:Int} {a2 c2 o2:Int} {s2:BA} {bd2:Bool} {r2 d2 ts2:Int} {st3:Pst}
theorem al_num {v:Int} (hi:q16y 2 (baL wFlag) b a c o s bd r d ts=some (true,true,b,a1,c1,o1,s1,bd1,r1,d1,ts1))
  (hn:q185 b a1 c1 o1 s1 bd1 r1 d1 ts1=some (v,v,b,a2,c2,o2,s2,bd2,r2,d2,ts2)) (hs:q17y (baL [59]) b a2 c2 o2 s2 bd2 r2 d2 ts2=some ((),(),st3)) :
  AL b a c o s bd r d ts ((5:Nat):Int)=some (.inl ((),(2,0,0,noTx,0,noTx,0,0,0,6,noTx,noTx,v),st3,[],[],[])):=by
 have hs:q17y (ByteArray.mk (List.toArray [59])) b a2 c2 o2 s2 bd2 r2 d2 ts2=some ((),(),st3):=hs;have w1:IntKind.i64.wrap (((5:Nat):Int)+1)=6:=q1jq (by omega)
 have hw:[baL wKeep,baL wFile,baL wDiscard,baL wRedirect,baL wReject,baL wFlag,baL wReply].getD 5 ByteArray.empty=baL wFlag:=rfl;refine q15d ?_;simp only [q15i,gL,dL,wI,p0,q8c,qm1,x25q,x26q,show ((5:Nat):Int)<7 by omega,show ((5:Nat):Int)<((7:Nat):Int) by omega,show (0:Int)<=((5:Nat):Int) by omega,decide_true,x3q,x9q,x8q,x13q,Nat.reduceAdd,show 5<7 by omega,x4q,x20q,hw,hi,x0q,x15q,x1q,x21q,w1,x19q,hn,hs]
theorem al_txt {k:Nat} (hk:k<7) {w:List UInt8} (hw:[baL wKeep,baL wFile,baL wDiscard,baL wRedirect,baL wReject,baL wFlag,baL wReply].getD k ByteArray.empty=baL w) (h6:k≠5) (ht:txtB ((k+1:Nat):Int)=true) {v:BA} (hi:q16y 2 (baL w) b a c o s bd r d ts=some (true,true,b,a1,c1,o1,s1,bd1,r1,d1,ts1))
  (hn:q19c 1 b a1 c1 o1 s1 bd1 r1 d1 ts1=some (v,v,b,a2,c2,o2,s2,bd2,r2,d2,ts2)) (hs:q17y (baL [59]) b a2 c2 o2 s2 bd2 r2 d2 ts2=some ((),(),st3)) :
  AL b a c o s bd r d ts (k:Int)=some (.inl ((),(2,0,0,noTx,0,noTx,0,0,0,((k+1:Nat):Int),noTx,v,0),st3,[],[],[])):=by
 have hs:q17y (ByteArray.mk (List.toArray [59])) b a2 c2 o2 s2 bd2 r2 d2 ts2=some ((),(),st3):=hs;have w1:IntKind.i64.wrap ((k:Int)+1)=((k+1:Nat):Int):=q1jr (n:=10) (by omega) (by omega)
 have e6:(((k+1:Nat):Int)==6)=false:=by simp;omega
 refine q15d ?_;simp only [q15i,gL,dL,wI,p0,q8c,qm1,x25q,x26q,show (k:Int)<7 by omega,show (k:Int)<((7:Nat):Int) by omega,show (0:Int)<=(k:Int) by omega,decide_true,x3q,x9q,x8q,x13q,Nat.reduceAdd,hk,x4q,x20q,hw,hi,x0q,x15q,x1q,x21q,w1,e6,q1i1,ht,hn,hs]
theorem al_pl {k:Nat} (hk:k<7) {w:List UInt8} (hw:[baL wKeep,baL wFile,baL wDiscard,baL wRedirect,baL wReject,baL wFlag,baL wReply].getD k ByteArray.empty=baL w) (h6:k≠5) (ht:txtB ((k+1:Nat):Int)=false) (hi:q16y 2 (baL w) b a c o s bd r d ts=some (true,true,b,a1,c1,o1,s1,bd1,r1,d1,ts1))
  (hs:q17y (baL [59]) b a1 c1 o1 s1 bd1 r1 d1 ts1=some ((),(),st3)) :
  AL b a c o s bd r d ts (k:Int)=some (.inl ((),(2,0,0,noTx,0,noTx,0,0,0,((k+1:Nat):Int),noTx,noTx,0),st3,[],[],[])):=by
 have hs:q17y (ByteArray.mk (List.toArray [59])) b a1 c1 o1 s1 bd1 r1 d1 ts1=some ((),(),st3):=hs;have w1:IntKind.i64.wrap ((k:Int)+1)=((k+1:Nat):Int):=q1jr (n:=10) (by omega) (by omega)
 have e6:(((k+1:Nat):Int)==6)=false:=by simp;omega
 refine q15d ?_;simp only [q15i,gL,dL,wI,p0,q8c,qm1,x25q,x26q,show (k:Int)<7 by omega,show (k:Int)<((7:Nat):Int) by omega,show (0:Int)<=(k:Int) by omega,decide_true,x3q,x9q,x8q,x13q,Nat.reduceAdd,hk,x4q,x20q,hw,hi,x0q,x15q,x1q,x21q,w1,e6,q1i1,ht,hs]
theorem qv {act n:Int} {tx:BA} {st:Pst} (h:AL b a c o s bd r d ts 0=some (.inl ((),(2,0,0,noTx,0,noTx,0,0,0,act,noTx,tx,n),st,[],[],[]))) :
  q158 b a c o s bd r d ts=some (tupR (ruA act tx n),tupR (ruA act tx n),st):=by
 have e0:qbp.decL []=[]:=rfl;have e1:qbr.decL []=[]:=rfl
 unfold AL at h;refine q15a ?_;simp only [q15m,gL,dL,qm1,x25q,x26q,qy,x0q,e0,e1,x20q,h,Sum.elim_inl];rfl
theorem qw (h:AL b a c o s bd r d ts 0=some (.inr (((),(),(),(baL wKeep,baL wFile,baL wDiscard,baL wRedirect,baL wReject,baL wFlag,baL wReply),7,false),(b,a,c,o,s,bd,r,d,ts),(0,0,0,noTx,0,noTx,0,0,0,0,noTx,noTx,0),(2,0,0,noTx,0,noTx,0,0,0,0,noTx,noTx,0),[],[],[],[],[],[]) )) :
  q158 b a c o s bd r d ts=some (tupR (ruA 0 noTx 0),tupR (ruA 0 noTx 0),b,a,c,o,s,true,r,d,ts):=by
 have e0:qbp.decL []=[]:=rfl;have e1:qbr.decL []=[]:=rfl
 unfold AL at h;refine q15a ?_;simp only [q15m,gL,dL,qm1,x25q,x26q,qy,x0q,e0,e1,x20q,h,Sum.elim_inr];rfl
end
section
variable (b:BA) (hb:b.size<=4000)
def PRO (d:Nat) (sp:Nat⊕(S38×List Tok×Nat)) (t:S38) (st:Pst):Prop:=match sp with
 |.inr y=>t=y.1/\y.2.2<=100/\∃ n z R,y.2.1=z::R/\At b n z R/\st=stP b n z false ((y.2.2:Nat):Int) (d:Int) 0
 |.inl o=>∃ n z r,z.o=o/\st=stP b n z true r (d:Int) 0
def actSpec (m:Nat) (x:Tok) (r:List Tok):Nat⊕(S38×List Tok×Nat) :=
 if actN x.s=0 then .inl x.o
 else if actN x.s=6 then thn (sNum r) λa=>thn (sNeed [59] a.2) λr1=>.inr (rul 2 t0 [] [] 6 [] [] a.1,r1,m+1)
 else if txtB (actN x.s)=true then thn (sTake 1 r) λa=>thn (sNeed [59] a.2) λr1=>.inr (rul 2 t0 [] [] (actN x.s) [] a.1 0,r1,m+1)
 else thn (sNeed [59] r) λr1=>.inr (rul 2 t0 [] [] (actN x.s) [] [] 0,r1,m+1)
theorem qx {d m n:Nat} {x:Tok} {R:List Tok} (h:¬ (x.k=2/\actN x.s≠0)):q158 b ((n:Nat):Int) ((x.k:Nat):Int) ((x.o:Nat):Int) (baL x.s) false ((m+1:Nat):Int) (d:Int) 0=some (tupR (ruA 0 noTx 0),tupR (ruA 0 noTx 0),b,((n:Nat):Int),((x.k:Nat):Int),((x.o:Nat):Int),baL x.s,true,((m+1:Nat):Int),(d:Int),0):=by
 have nos:∀ w:List UInt8,actN w≠0->q16y 2 (baL w) b ((n:Nat):Int) ((x.k:Nat):Int) ((x.o:Nat):Int) (baL x.s) false ((m+1:Nat):Int) (d:Int) 0=some (false,false,b,((n:Nat):Int),((x.k:Nat):Int),((x.o:Nat):Int),baL x.s,false,((m+1:Nat):Int),(d:Int),0):=λw hw =>
  is_no (k:=2) (R:=R) (by simp only [isT,y37q,beq_eq_false_iff_ne];by_cases e:x.k=2;exact .inr (λe2=>h ⟨e,by rw [e2];exact hw⟩);exact .inl e) _ _ _
 exact qw (q1c (k:=0) (by omega) (w:=wKeep) rfl (nos _ (by decide)) (q1c (k:=1) (by omega) (w:=wFile) rfl (nos _ (by decide)) (q1c (k:=2) (by omega) (w:=wDiscard) rfl (nos _ (by decide)) (q1c (k:=3) (by omega) (w:=wRedirect) rfl (nos _ (by decide)) (q1c (k:=4) (by omega) (w:=wReject) rfl (nos _ (by decide)) (q1c (k:=5) (by omega) (w:=wFlag) rfl (nos _ (by decide)) (q1c (k:=6) (by omega) (w:=wReply) rfl (nos _ (by decide)) (al_7 _ _ _ _ _ _ _ _ _))))))))
include hb
theorem qs {m d n1:Nat} {z:Tok} {R1:List Tok} {bd1:Bool} (hm:m+1<=100) (hA1:At b n1 z R1) (hbd:bd1=false) (t:S38) (K:Pst->Prop)
  (hK:∀ st3,q17y (baL [59]) b ((n1:Nat):Int) ((z.k:Nat):Int) ((z.o:Nat):Int) (baL z.s) bd1 ((m+1:Nat):Int) (d:Int) 0=some ((),(),st3)->K st3):∃ st,K st/\PRO b d (thn (sNeed [59] (z::R1)) λr1=>.inr (t,r1,m+1)) t st:=by
 subst hbd;simp only [sNeed];cases hc:isT 4 [59] (z::R1) with
 |false=>exact ⟨_,hK _ (quk hc _ _ _),n1,z,_,rfl,rfl⟩
 |true =>obtain ⟨n2,z2,R2,rfl,q2,q3⟩:=qul hb hA1 hc ((m+1:Nat):Int) (d:Int) 0;exact ⟨_,hK _ q3,rfl,hm,n2,z2,R2,rfl,q2,rfl⟩
theorem act_s {d m n:Nat} {x:Tok} {R:List Tok} (hA:At b n x R) (hm:m+1<=100) (hx:x.k=2) :
  ∃ t st,q158 b ((n:Nat):Int) ((x.k:Nat):Int) ((x.o:Nat):Int) (baL x.s) false ((m+1:Nat):Int) (d:Int) 0=some (tupR t,tupR t,st)/\PRO b d (actSpec m x R) t st:=by
 unfold actSpec;by_cases h0:actN x.s=0
 ·rw [if_pos h0]
  exact ⟨_,_,qx b (R:=R) (λe=>e.2 h0),n,x,_,rfl,rfl⟩
 rw [if_neg h0]
 have nos:∀ w:List UInt8,x.s≠w->q16y 2 (baL w) b ((n:Nat):Int) ((x.k:Nat):Int) ((x.o:Nat):Int) (baL x.s) false ((m+1:Nat):Int) (d:Int) 0=some (false,false,b,((n:Nat):Int),((x.k:Nat):Int),((x.o:Nat):Int),baL x.s,false,((m+1:Nat):Int),(d:Int),0):=λw hw =>
  is_no (k:=2) (R:=R) (by simp only [isT,y37q,beq_eq_false_iff_ne];exact .inr hw) _ _ _
 have hwds:x.s=wKeep∨x.s=wFile∨x.s=wDiscard∨x.s=wRedirect∨x.s=wReject∨x.s=wFlag∨x.s=wReply:=by
  unfold actN at h0;by_cases q1:x.s=wKeep;· exact .inl q1
  by_cases q2:x.s=wFile;· exact .inr (.inl q2)
  by_cases q3:x.s=wDiscard;· exact .inr (.inr (.inl q3))
  by_cases q4:x.s=wRedirect;· exact .inr (.inr (.inr (.inl q4)))
  by_cases q5:x.s=wReject;· exact .inr (.inr (.inr (.inr (.inl q5))))
  by_cases q6:x.s=wFlag;· exact .inr (.inr (.inr (.inr (.inr (.inl q6)))))
  by_cases q7:x.s=wReply;· exact .inr (.inr (.inr (.inr (.inr (.inr (q7))))))
  simp [q1,q2,q3,q4,q5,q6,q7] at h0
 rcases hwds with hw|hw|hw|hw|hw|hw|hw
 ·have hN:actN x.s=1:=by rw [hw];rfl
  simp only [hN];obtain ⟨n1,y,R',rfl,g2,g3⟩:=qq2 hb hA (k:=2) rfl (w:=wKeep) (by simp [isT,hx,hw]) ((m+1:Nat):Int) (d:Int) 0
  have g3:q16y 2 (baL wKeep) b ((n:Nat):Int) ((x.k:Nat):Int) ((x.o:Nat):Int) (baL x.s) false ((m+1:Nat):Int) (d:Int) 0=some (true,true,b,((n1:Nat):Int),((y.k:Nat):Int),((y.o:Nat):Int),baL y.s,false,((m+1:Nat):Int),(d:Int),0):=g3;rw [if_neg (by decide),if_neg (by decide)]
  obtain ⟨st,k1,k2⟩:=qs b hb hm g2 rfl (rul 2 t0 [] [] 1 [] [] 0) (λst=>q158 b ((n:Nat):Int) ((x.k:Nat):Int) ((x.o:Nat):Int) (baL x.s) false ((m+1:Nat):Int) (d:Int) 0=some (tupR (ruA 1 noTx 0),tupR (ruA 1 noTx 0),st)) (λst3 q4=>qv (al_pl (k:=0) (by omega) (w:=wKeep) rfl (by omega) rfl g3 q4))
  exact ⟨_,st,k1,k2⟩
 ·have hN:actN x.s=2:=by rw [hw];rfl
  simp only [hN];obtain ⟨n1,y,R',rfl,g2,g3⟩:=qq2 hb hA (k:=2) rfl (w:=wFile) (by simp [isT,hx,hw]) ((m+1:Nat):Int) (d:Int) 0
  have g3:q16y 2 (baL wFile) b ((n:Nat):Int) ((x.k:Nat):Int) ((x.o:Nat):Int) (baL x.s) false ((m+1:Nat):Int) (d:Int) 0=some (true,true,b,((n1:Nat):Int),((y.k:Nat):Int),((y.o:Nat):Int),baL y.s,false,((m+1:Nat):Int),(d:Int),0):=g3;rw [if_neg (by decide),if_pos (by decide)]
  simp only [sTake];by_cases hy:y.k=1
  ·obtain ⟨n2,z,R2,rfl,q2,q3⟩:=q1ho hb g2 (k:=1) rfl hy ((m+1:Nat):Int) (d:Int) 0
   rw [if_pos hy];dsimp only [thn];obtain ⟨st,k1,k2⟩:=qs b hb hm q2 rfl (rul 2 t0 [] [] 2 [] y.s 0) (λst=>q158 b ((n:Nat):Int) ((x.k:Nat):Int) ((x.o:Nat):Int) (baL x.s) false ((m+1:Nat):Int) (d:Int) 0=some (tupR (ruA 2 (baL y.s) 0),tupR (ruA 2 (baL y.s) 0),st)) (λst3 q4=>qv (q1c (k:=0) (by omega) (w:=wKeep) rfl (nos _ (λe=>absurd (hw.symm.trans e) (by decide))) (al_txt (k:=1) (by omega) (w:=wFile) rfl (by omega) rfl g3 q3 q4)))
   exact ⟨_,st,k1,k2⟩
  ·have q3:=q1hm (b:=b) (n:=n1) (k:=1) hy ((m+1:Nat):Int) (d:Int) 0
   rw [if_neg hy];exact ⟨_,_,qv (q1c (k:=0) (by omega) (w:=wKeep) rfl (nos _ (λe=>absurd (hw.symm.trans e) (by decide))) (al_txt (k:=1) (by omega) (w:=wFile) rfl (by omega) rfl g3 q3 (quj _ _ _ _ _ _ _ _ _))),n1,y,_,rfl,rfl⟩
 ·have hN:actN x.s=3:=by rw [hw];rfl
  simp only [hN];obtain ⟨n1,y,R',rfl,g2,g3⟩:=qq2 hb hA (k:=2) rfl (w:=wDiscard) (by simp [isT,hx,hw]) ((m+1:Nat):Int) (d:Int) 0
  have g3:q16y 2 (baL wDiscard) b ((n:Nat):Int) ((x.k:Nat):Int) ((x.o:Nat):Int) (baL x.s) false ((m+1:Nat):Int) (d:Int) 0=some (true,true,b,((n1:Nat):Int),((y.k:Nat):Int),((y.o:Nat):Int),baL y.s,false,((m+1:Nat):Int),(d:Int),0):=g3;rw [if_neg (by decide),if_neg (by decide)]
  obtain ⟨st,k1,k2⟩:=qs b hb hm g2 rfl (rul 2 t0 [] [] 3 [] [] 0) (λst=>q158 b ((n:Nat):Int) ((x.k:Nat):Int) ((x.o:Nat):Int) (baL x.s) false ((m+1:Nat):Int) (d:Int) 0=some (tupR (ruA 3 noTx 0),tupR (ruA 3 noTx 0),st)) (λst3 q4=>qv (q1c (k:=0) (by omega) (w:=wKeep) rfl (nos _ (λe=>absurd (hw.symm.trans e) (by decide))) (q1c (k:=1) (by omega) (w:=wFile) rfl (nos _ (λe=>absurd (hw.symm.trans e) (by decide))) (al_pl (k:=2) (by omega) (w:=wDiscard) rfl (by omega) rfl g3 q4))))
  exact ⟨_,st,k1,k2⟩
 ·have hN:actN x.s=4:=by rw [hw];rfl
  simp only [hN];obtain ⟨n1,y,R',rfl,g2,g3⟩:=qq2 hb hA (k:=2) rfl (w:=wRedirect) (by simp [isT,hx,hw]) ((m+1:Nat):Int) (d:Int) 0
  have g3:q16y 2 (baL wRedirect) b ((n:Nat):Int) ((x.k:Nat):Int) ((x.o:Nat):Int) (baL x.s) false ((m+1:Nat):Int) (d:Int) 0=some (true,true,b,((n1:Nat):Int),((y.k:Nat):Int),((y.o:Nat):Int),baL y.s,false,((m+1:Nat):Int),(d:Int),0):=g3;rw [if_neg (by decide),if_pos (by decide)]
  simp only [sTake];by_cases hy:y.k=1
  ·obtain ⟨n2,z,R2,rfl,q2,q3⟩:=q1ho hb g2 (k:=1) rfl hy ((m+1:Nat):Int) (d:Int) 0
   rw [if_pos hy];dsimp only [thn];obtain ⟨st,k1,k2⟩:=qs b hb hm q2 rfl (rul 2 t0 [] [] 4 [] y.s 0) (λst=>q158 b ((n:Nat):Int) ((x.k:Nat):Int) ((x.o:Nat):Int) (baL x.s) false ((m+1:Nat):Int) (d:Int) 0=some (tupR (ruA 4 (baL y.s) 0),tupR (ruA 4 (baL y.s) 0),st)) (λst3 q4=>qv (q1c (k:=0) (by omega) (w:=wKeep) rfl (nos _ (λe=>absurd (hw.symm.trans e) (by decide))) (q1c (k:=1) (by omega) (w:=wFile) rfl (nos _ (λe=>absurd (hw.symm.trans e) (by decide))) (q1c (k:=2) (by omega) (w:=wDiscard) rfl (nos _ (λe=>absurd (hw.symm.trans e) (by decide))) (al_txt (k:=3) (by omega) (w:=wRedirect) rfl (by omega) rfl g3 q3 q4)))))
   exact ⟨_,st,k1,k2⟩
  ·have q3:=q1hm (b:=b) (n:=n1) (k:=1) hy ((m+1:Nat):Int) (d:Int) 0
   rw [if_neg hy];exact ⟨_,_,qv (q1c (k:=0) (by omega) (w:=wKeep) rfl (nos _ (λe=>absurd (hw.symm.trans e) (by decide))) (q1c (k:=1) (by omega) (w:=wFile) rfl (nos _ (λe=>absurd (hw.symm.trans e) (by decide))) (q1c (k:=2) (by omega) (w:=wDiscard) rfl (nos _ (λe=>absurd (hw.symm.trans e) (by decide))) (al_txt (k:=3) (by omega) (w:=wRedirect) rfl (by omega) rfl g3 q3 (quj _ _ _ _ _ _ _ _ _))))),n1,y,_,rfl,rfl⟩
 ·have hN:actN x.s=5:=by rw [hw];rfl
  simp only [hN];obtain ⟨n1,y,R',rfl,g2,g3⟩:=qq2 hb hA (k:=2) rfl (w:=wReject) (by simp [isT,hx,hw]) ((m+1:Nat):Int) (d:Int) 0
  have g3:q16y 2 (baL wReject) b ((n:Nat):Int) ((x.k:Nat):Int) ((x.o:Nat):Int) (baL x.s) false ((m+1:Nat):Int) (d:Int) 0=some (true,true,b,((n1:Nat):Int),((y.k:Nat):Int),((y.o:Nat):Int),baL y.s,false,((m+1:Nat):Int),(d:Int),0):=g3;rw [if_neg (by decide),if_pos (by decide)]
  simp only [sTake];by_cases hy:y.k=1
  ·obtain ⟨n2,z,R2,rfl,q2,q3⟩:=q1ho hb g2 (k:=1) rfl hy ((m+1:Nat):Int) (d:Int) 0
   rw [if_pos hy];dsimp only [thn];obtain ⟨st,k1,k2⟩:=qs b hb hm q2 rfl (rul 2 t0 [] [] 5 [] y.s 0) (λst=>q158 b ((n:Nat):Int) ((x.k:Nat):Int) ((x.o:Nat):Int) (baL x.s) false ((m+1:Nat):Int) (d:Int) 0=some (tupR (ruA 5 (baL y.s) 0),tupR (ruA 5 (baL y.s) 0),st)) (λst3 q4=>qv (q1c (k:=0) (by omega) (w:=wKeep) rfl (nos _ (λe=>absurd (hw.symm.trans e) (by decide))) (q1c (k:=1) (by omega) (w:=wFile) rfl (nos _ (λe=>absurd (hw.symm.trans e) (by decide))) (q1c (k:=2) (by omega) (w:=wDiscard) rfl (nos _ (λe=>absurd (hw.symm.trans e) (by decide))) (q1c (k:=3) (by omega) (w:=wRedirect) rfl (nos _ (λe=>absurd (hw.symm.trans e) (by decide))) (al_txt (k:=4) (by omega) (w:=wReject) rfl (by omega) rfl g3 q3 q4))))))
   exact ⟨_,st,k1,k2⟩
  ·have q3:=q1hm (b:=b) (n:=n1) (k:=1) hy ((m+1:Nat):Int) (d:Int) 0
   rw [if_neg hy];exact ⟨_,_,qv (q1c (k:=0) (by omega) (w:=wKeep) rfl (nos _ (λe=>absurd (hw.symm.trans e) (by decide))) (q1c (k:=1) (by omega) (w:=wFile) rfl (nos _ (λe=>absurd (hw.symm.trans e) (by decide))) (q1c (k:=2) (by omega) (w:=wDiscard) rfl (nos _ (λe=>absurd (hw.symm.trans e) (by decide))) (q1c (k:=3) (by omega) (w:=wRedirect) rfl (nos _ (λe=>absurd (hw.symm.trans e) (by decide))) (al_txt (k:=4) (by omega) (w:=wReject) rfl (by omega) rfl g3 q3 (quj _ _ _ _ _ _ _ _ _)))))),n1,y,_,rfl,rfl⟩
 ·have hN:actN x.s=6:=by rw [hw];rfl
  simp only [hN];obtain ⟨n1,y,R',rfl,g2,g3⟩:=qq2 hb hA (k:=2) rfl (w:=wFlag) (by simp [isT,hx,hw]) ((m+1:Nat):Int) (d:Int) 0
  have g3:q16y 2 (baL wFlag) b ((n:Nat):Int) ((x.k:Nat):Int) ((x.o:Nat):Int) (baL x.s) false ((m+1:Nat):Int) (d:Int) 0=some (true,true,b,((n1:Nat):Int),((y.k:Nat):Int),((y.o:Nat):Int),baL y.s,false,((m+1:Nat):Int),(d:Int),0):=g3;have hn:=num_s hb g2 ((m+1:Nat):Int) (d:Int) 0
  cases hs:sNum (y::R') with
  |inl o =>rw [hs] at hn;obtain ⟨rfl,h1⟩:=hn;exact ⟨_,_,qv (q1c (k:=0) (by omega) (w:=wKeep) rfl (nos _ (λe=>absurd (hw.symm.trans e) (by decide))) (q1c (k:=1) (by omega) (w:=wFile) rfl (nos _ (λe=>absurd (hw.symm.trans e) (by decide))) (q1c (k:=2) (by omega) (w:=wDiscard) rfl (nos _ (λe=>absurd (hw.symm.trans e) (by decide))) (q1c (k:=3) (by omega) (w:=wRedirect) rfl (nos _ (λe=>absurd (hw.symm.trans e) (by decide))) (q1c (k:=4) (by omega) (w:=wReject) rfl (nos _ (λe=>absurd (hw.symm.trans e) (by decide))) (al_num g3 h1 (quj _ _ _ _ _ _ _ _ _))))))),n1,y,_,rfl,rfl⟩
  |inr q =>
   rw [hs] at hn;obtain ⟨n2,z,R2,j1,j2,h1⟩:=hn;dsimp only [thn];rw [j1];obtain ⟨st,k1,k2⟩:=qs b hb hm j2 rfl (rul 2 t0 [] [] 6 [] [] q.1) (λst=>q158 b ((n:Nat):Int) ((x.k:Nat):Int) ((x.o:Nat):Int) (baL x.s) false ((m+1:Nat):Int) (d:Int) 0=some (tupR (ruA 6 noTx ((q.1:Nat):Int)),tupR (ruA 6 noTx ((q.1:Nat):Int)),st)) (λst3 q3=>qv (q1c (k:=0) (by omega) (w:=wKeep) rfl (nos _ (λe=>absurd (hw.symm.trans e) (by decide))) (q1c (k:=1) (by omega) (w:=wFile) rfl (nos _ (λe=>absurd (hw.symm.trans e) (by decide))) (q1c (k:=2) (by omega) (w:=wDiscard) rfl (nos _ (λe=>absurd (hw.symm.trans e) (by decide))) (q1c (k:=3) (by omega) (w:=wRedirect) rfl (nos _ (λe=>absurd (hw.symm.trans e) (by decide))) (q1c (k:=4) (by omega) (w:=wReject) rfl (nos _ (λe=>absurd (hw.symm.trans e) (by decide))) (al_num g3 h1 q3)))))))
   exact ⟨_,st,k1,k2⟩
 ·have hN:actN x.s=7:=by rw [hw];rfl
  simp only [hN];obtain ⟨n1,y,R',rfl,g2,g3⟩:=qq2 hb hA (k:=2) rfl (w:=wReply) (by simp [isT,hx,hw]) ((m+1:Nat):Int) (d:Int) 0
  have g3:q16y 2 (baL wReply) b ((n:Nat):Int) ((x.k:Nat):Int) ((x.o:Nat):Int) (baL x.s) false ((m+1:Nat):Int) (d:Int) 0=some (true,true,b,((n1:Nat):Int),((y.k:Nat):Int),((y.o:Nat):Int),baL y.s,false,((m+1:Nat):Int),(d:Int),0):=g3;rw [if_neg (by decide),if_pos (by decide)]
  simp only [sTake];by_cases hy:y.k=1
  ·obtain ⟨n2,z,R2,rfl,q2,q3⟩:=q1ho hb g2 (k:=1) rfl hy ((m+1:Nat):Int) (d:Int) 0
   rw [if_pos hy];dsimp only [thn];obtain ⟨st,k1,k2⟩:=qs b hb hm q2 rfl (rul 2 t0 [] [] 7 [] y.s 0) (λst=>q158 b ((n:Nat):Int) ((x.k:Nat):Int) ((x.o:Nat):Int) (baL x.s) false ((m+1:Nat):Int) (d:Int) 0=some (tupR (ruA 7 (baL y.s) 0),tupR (ruA 7 (baL y.s) 0),st)) (λst3 q4=>qv (q1c (k:=0) (by omega) (w:=wKeep) rfl (nos _ (λe=>absurd (hw.symm.trans e) (by decide))) (q1c (k:=1) (by omega) (w:=wFile) rfl (nos _ (λe=>absurd (hw.symm.trans e) (by decide))) (q1c (k:=2) (by omega) (w:=wDiscard) rfl (nos _ (λe=>absurd (hw.symm.trans e) (by decide))) (q1c (k:=3) (by omega) (w:=wRedirect) rfl (nos _ (λe=>absurd (hw.symm.trans e) (by decide))) (q1c (k:=4) (by omega) (w:=wReject) rfl (nos _ (λe=>absurd (hw.symm.trans e) (by decide))) (q1c (k:=5) (by omega) (w:=wFlag) rfl (nos _ (λe=>absurd (hw.symm.trans e) (by decide))) (al_txt (k:=6) (by omega) (w:=wReply) rfl (by omega) rfl g3 q3 q4))))))))
   exact ⟨_,st,k1,k2⟩
  ·have q3:=q1hm (b:=b) (n:=n1) (k:=1) hy ((m+1:Nat):Int) (d:Int) 0
   rw [if_neg hy];exact ⟨_,_,qv (q1c (k:=0) (by omega) (w:=wKeep) rfl (nos _ (λe=>absurd (hw.symm.trans e) (by decide))) (q1c (k:=1) (by omega) (w:=wFile) rfl (nos _ (λe=>absurd (hw.symm.trans e) (by decide))) (q1c (k:=2) (by omega) (w:=wDiscard) rfl (nos _ (λe=>absurd (hw.symm.trans e) (by decide))) (q1c (k:=3) (by omega) (w:=wRedirect) rfl (nos _ (λe=>absurd (hw.symm.trans e) (by decide))) (q1c (k:=4) (by omega) (w:=wReject) rfl (nos _ (λe=>absurd (hw.symm.trans e) (by decide))) (q1c (k:=5) (by omega) (w:=wFlag) rfl (nos _ (λe=>absurd (hw.symm.trans e) (by decide))) (al_txt (k:=6) (by omega) (w:=wReply) rfl (by omega) rfl g3 q3 (quj _ _ _ _ _ _ _ _ _)))))))),n1,y,_,rfl,rfl⟩
end
end Go.Proofs.YtmlcmoaonaomfaaGreatDoor
