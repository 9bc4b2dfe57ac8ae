/- The parser reads rules. -/
import Derived.Test.YtognhcibcocbkaaGreatDoorA5
import Derived.Test.YtognhcibcocbkaaGreatDoorZ28
import Derived.Test.YtognhcibcocbkaaGreatDoorZ23
import Derived.Test.YtognhcibcocbkaaGreatDoorZ27
namespace Go.Proofs.YtognhcibcocbkaaGreatDoor
open Go.RowKit
def ruI (t:S57) (l l2:List S59):S59:=⟨1,t.Kind,t.Tests,t.Name,t.Pattern,t.Text,t.N,l,l2,0,noTx,noTx,0⟩
def ruS (nm tx:ByteArray):S59:=⟨3,0,[],noTx,0,noTx,0,[],[],0,nm,tx,0⟩
def ruT:S59:=⟨4,0,[],noTx,0,noTx,0,[],[],0,noTx,noTx,0⟩
def ru0:S59:=⟨0,0,[],noTx,0,noTx,0,[],[],0,noTx,noTx,0⟩
theorem blk1_s (b:ByteArray) (a c o:Int) (s:ByteArray) (bd:Bool) (r d ts:Int):qln b a c o s bd r d ts=some ((),((),((),(b,a,c,o,s,bd,r,IntKind.i64.wrap (d - 1),ts)))):=qlp rfl
theorem qaf (b:ByteArray) (a c o:Int) (s:ByteArray) (r d ts:Int) (W:List S59):qo4 W.length b a c o s true r d ts W=some (((),(W.length,false)),((b,a,c,o,s,true,r,d,ts),W)):=by
 refine qo6 ?_
 simp only [qoa,gL,dL,aL,dQ,q3l,q8h,EC.decL_encL,EC.isL_encL,all_59,apd_59,show ((!true)==true)=false from rfl,Bool.false_eq_true,if_false,if_true]
theorem qrn {b:ByteArray} {a c o:Int} {s:ByteArray} {bd:Bool} {r d ts:Int} {st:Pst} {l:List S59} (h:qo4 0 b a c o s bd r d ts []=some (((),(l.length,false)),(st,l))):qo1 b a c o s bd r d ts=some (l,(l,st)):=by
 have e1:q5l.decL []=[]:=rfl
 refine qo3 ?_
 simp only [qoe,gL,dL,q8h,EC.decL_encL,EC.isL_encL,e1,h,Option.bind_some,if_true]
theorem q3g (b:ByteArray) (a c o:Int) (s:ByteArray) (r ts:Int) (d:Nat) (hd:d≤100):qlu b a c o s true r (d:Int) ts=some ([],([],(b,a,c,o,s,true,r,(d:Int),ts))):=by
 have w1:IntKind.i64.wrap ((d:Int)+1)=((d+1:Nat):Int):=qvt (n:=1000) (by omega) (by omega)
 have w2:IntKind.i64.wrap (((d+1:Nat):Int) - 1)=(d:Int):=by rw [qvs (by omega)];omega
 have hs:=qrn (qaf b a c o s r ((d+1:Nat):Int) ts [])
 refine qlw ?_
 simp only [qm0,gL,dL,wI,q8h,EC.decL_encL,EC.isL_encL,qca,hs,blk1_s,Option.bind_some,w1,w2,if_true]
theorem q3h {b:ByteArray} {a c o:Int} {s:ByteArray} {bd:Bool} {r ts:Int} {d:Nat} (hd:d≤100) {a1 c1 o1:Int} {s1:ByteArray} {bd1:Bool} {r1 ts1:Int} {a2 c2 o2:Int} {s2:ByteArray} {bd2:Bool} {r2 ts2:Int} {a3 c3 o3:Int} {s3:ByteArray} {bd3:Bool} {r3 ts3:Int} {l:List S59}
  (h1:qn1 (ByteArray.mk (List.toArray [(123:UInt8)])) b a c o s bd r (d:Int) ts=some ((),((),(b,(a1,(c1,(o1,(s1,(bd1,(r1,((d:Int),ts1)))))))))))
  (h2:qo1 b a1 c1 o1 s1 bd1 r1 ((d+1:Nat):Int) ts1=some (l,(l,(b,(a2,(c2,(o2,(s2,(bd2,(r2,(((d+1:Nat):Int),ts2)))))))))))
  (h3:qn1 (ByteArray.mk (List.toArray [(125:UInt8)])) b a2 c2 o2 s2 bd2 r2 ((d+1:Nat):Int) ts2=some ((),((),(b,(a3,(c3,(o3,(s3,(bd3,(r3,(((d+1:Nat):Int),ts3))))))))))) :
  qlu b a c o s bd r (d:Int) ts=some (l,(l,(b,(a3,(c3,(o3,(s3,(bd3,(r3,((d:Int),ts3)))))))))):=by
 have w1:IntKind.i64.wrap ((d:Int)+1)=((d+1:Nat):Int):=qvt (n:=1000) (by omega) (by omega)
 have w2:IntKind.i64.wrap (((d+1:Nat):Int) - 1)=(d:Int):=by rw [qvs (by omega)];omega
 refine qlw ?_
 simp only [qm0,gL,dL,wI,q8h,EC.decL_encL,EC.isL_encL,h1,h2,h3,blk1_s,Option.bind_some,w1,w2,if_true]
section
variable {b:ByteArray} {a c o:Int} {s:ByteArray} {m d:Nat} (hm:m+1≤100) (hd:d≤8) {a1 c1 o1:Int} {s1:ByteArray} {bd1:Bool} {r1 d1 ts1:Int} {a2 c2 o2:Int} {s2:ByteArray} {bd2:Bool} {r2 d2 ts2:Int} {a3 c3 o3:Int} {s3:ByteArray} {bd3:Bool} {r3 d3 ts3:Int} {a4 c4 o4:Int} {s4:ByteArray} {bd4:Bool} {r4 d4 ts4:Int} {t:S57} {l l2:List S59} {st:Pst}
include hm hd
theorem qgw (hi:qm1 2 (ByteArray.mk (List.toArray [(105:UInt8),(102:UInt8)])) b a c o s false ((m+1:Nat):Int) (d:Int) 0=some (true,(true,(b,(a1,(c1,(o1,(s1,(bd1,(r1,(d1,ts1)))))))))))
  (ht:qot b a1 c1 o1 s1 bd1 r1 d1 ts1=some (tup t,(tup t,(b,(a2,(c2,(o2,(s2,(bd2,(r2,(d2,ts2))))))))))) (hb1:qlu b a2 c2 o2 s2 bd2 r2 d2 ts2=some (l,(l,(b,(a3,(c3,(o3,(s3,(bd3,(r3,(d3,ts3))))))))))) (he:qm1 2 (ByteArray.mk (List.toArray [(101:UInt8),(108:UInt8),(115:UInt8),(101:UInt8)])) b a3 c3 o3 s3 bd3 r3 d3 ts3=some (false,(false,st))) :
  qnu b a c o s false (m:Int) (d:Int) 0=some (tupR (ruI t l []),(tupR (ruI t l []),st)):=by
 have e0:q5k.decL []=[]:=rfl
 have e1:q5l.decL []=[]:=rfl
 have w1:IntKind.i64.wrap ((m:Int)+1)=((m+1:Nat):Int):=qvt (n:=1000) (by omega) (by omega)
 refine qnw ?_
 simp only [qo0,gL,dL,wI,q3l,q8h,EC.decL_encL,EC.isL_encL,e0,e1,w1,show ¬ ((m+1:Nat):Int)>100 by omega,show ¬ (d:Int)>8 by omega,decide_false,beq_self_eq_true,if_true,Bool.false_eq_true,if_false,hi,ht,hb1,he,Option.bind_some]
 rfl
theorem qgx (hi:qm1 2 (ByteArray.mk (List.toArray [(105:UInt8),(102:UInt8)])) b a c o s false ((m+1:Nat):Int) (d:Int) 0=some (true,(true,(b,(a1,(c1,(o1,(s1,(bd1,(r1,(d1,ts1)))))))))))
  (ht:qot b a1 c1 o1 s1 bd1 r1 d1 ts1=some (tup t,(tup t,(b,(a2,(c2,(o2,(s2,(bd2,(r2,(d2,ts2))))))))))) (hb1:qlu b a2 c2 o2 s2 bd2 r2 d2 ts2=some (l,(l,(b,(a3,(c3,(o3,(s3,(bd3,(r3,(d3,ts3))))))))))) (he:qm1 2 (ByteArray.mk (List.toArray [(101:UInt8),(108:UInt8),(115:UInt8),(101:UInt8)])) b a3 c3 o3 s3 bd3 r3 d3 ts3=some (true,(true,(b,(a4,(c4,(o4,(s4,(bd4,(r4,(d4,ts4)))))))))))
  (hb2:qlu b a4 c4 o4 s4 bd4 r4 d4 ts4=some (l2,(l2,st))) :
  qnu b a c o s false (m:Int) (d:Int) 0=some (tupR (ruI t l l2),(tupR (ruI t l l2),st)):=by
 have e0:q5k.decL []=[]:=rfl
 have e1:q5l.decL []=[]:=rfl
 have w1:IntKind.i64.wrap ((m:Int)+1)=((m+1:Nat):Int):=qvt (n:=1000) (by omega) (by omega)
 refine qnw ?_
 simp only [qo0,gL,dL,wI,q3l,q8h,EC.decL_encL,EC.isL_encL,e0,e1,w1,show ¬ ((m+1:Nat):Int)>100 by omega,show ¬ (d:Int)>8 by omega,decide_false,beq_self_eq_true,if_true,Bool.false_eq_true,if_false,hi,ht,hb1,he,hb2,Option.bind_some]
 rfl
variable {nm tx:ByteArray} (hno:qm1 2 (ByteArray.mk (List.toArray [(105:UInt8),(102:UInt8)])) b a c o s false ((m+1:Nat):Int) (d:Int) 0=some (false,(false,(b,(a,(c,(o,(s,(false,(((m+1:Nat):Int),((d:Int),0)))))))))))
include hno
theorem qgz (hi:qm1 2 (ByteArray.mk (List.toArray [(115:UInt8),(101:UInt8),(116:UInt8)])) b a c o s false ((m+1:Nat):Int) (d:Int) 0=some (true,(true,(b,(a1,(c1,(o1,(s1,(bd1,(r1,(d1,ts1)))))))))))
  (h1:qof 2 b a1 c1 o1 s1 bd1 r1 d1 ts1=some (nm,(nm,(b,(a2,(c2,(o2,(s2,(bd2,(r2,(d2,ts2))))))))))) (h2:qof 1 b a2 c2 o2 s2 bd2 r2 d2 ts2=some (tx,(tx,(b,(a3,(c3,(o3,(s3,(bd3,(r3,(d3,ts3))))))))))) (h3:qn1 (ByteArray.mk (List.toArray [(59:UInt8)])) b a3 c3 o3 s3 bd3 r3 d3 ts3=some ((),((),st))) :
  qnu b a c o s false (m:Int) (d:Int) 0=some (tupR (ruS nm tx),(tupR (ruS nm tx),st)):=by
 have e0:q5k.decL []=[]:=rfl
 have e1:q5l.decL []=[]:=rfl
 have w1:IntKind.i64.wrap ((m:Int)+1)=((m+1:Nat):Int):=qvt (n:=1000) (by omega) (by omega)
 refine qnw ?_
 simp only [qo0,gL,dL,wI,q3l,q8h,EC.decL_encL,EC.isL_encL,e0,e1,w1,show ¬ ((m+1:Nat):Int)>100 by omega,show ¬ (d:Int)>8 by omega,decide_false,beq_self_eq_true,if_true,Bool.false_eq_true,if_false,hno,hi,h1,h2,h3,Option.bind_some]
 rfl
variable (hns:qm1 2 (ByteArray.mk (List.toArray [(115:UInt8),(101:UInt8),(116:UInt8)])) b a c o s false ((m+1:Nat):Int) (d:Int) 0=some (false,(false,(b,(a,(c,(o,(s,(false,(((m+1:Nat):Int),((d:Int),0)))))))))))
include hns
theorem qh0 (hi:qm1 2 (ByteArray.mk (List.toArray [(115:UInt8),(116:UInt8),(111:UInt8),(112:UInt8)])) b a c o s false ((m+1:Nat):Int) (d:Int) 0=some (true,(true,(b,(a1,(c1,(o1,(s1,(bd1,(r1,(d1,ts1))))))))))) (h3:qn1 (ByteArray.mk (List.toArray [(59:UInt8)])) b a1 c1 o1 s1 bd1 r1 d1 ts1=some ((),((),st))) :
  qnu b a c o s false (m:Int) (d:Int) 0=some (tupR ruT,(tupR ruT,st)):=by
 have e0:q5k.decL []=[]:=rfl
 have e1:q5l.decL []=[]:=rfl
 have w1:IntKind.i64.wrap ((m:Int)+1)=((m+1:Nat):Int):=qvt (n:=1000) (by omega) (by omega)
 refine qnw ?_
 simp only [qo0,gL,dL,wI,q3l,q8h,EC.decL_encL,EC.isL_encL,e0,e1,w1,show ¬ ((m+1:Nat):Int)>100 by omega,show ¬ (d:Int)>8 by omega,decide_false,beq_self_eq_true,if_true,Bool.false_eq_true,if_false,hno,hns,hi,h3,Option.bind_some]
 rfl
theorem qgt {ru:S59} (hi:qm1 2 (ByteArray.mk (List.toArray [(115:UInt8),(116:UInt8),(111:UInt8),(112:UInt8)])) b a c o s false ((m+1:Nat):Int) (d:Int) 0=some (false,(false,(b,(a,(c,(o,(s,(false,(((m+1:Nat):Int),((d:Int),0)))))))))))
  (h3:qkb b a c o s false ((m+1:Nat):Int) (d:Int) 0=some (tupR ru,(tupR ru,st))) :
  qnu b a c o s false (m:Int) (d:Int) 0=some (tupR ru,(tupR ru,st)):=by
 have w1:IntKind.i64.wrap ((m:Int)+1)=((m+1:Nat):Int):=qvt (n:=1000) (by omega) (by omega)
 refine qnw ?_
 simp only [qo0,gL,dL,wI,q3l,q8h,EC.decL_encL,EC.isL_encL,w1,show ¬ ((m+1:Nat):Int)>100 by omega,show ¬ (d:Int)>8 by omega,decide_false,beq_self_eq_true,if_true,Bool.false_eq_true,if_false,hno,hns,hi,h3,Option.bind_some]
end
theorem qgu (b:ByteArray) (a c o:Int) (s:ByteArray) (m d:Nat) (hm:m≤1000) (h:100<m+1∨8<d):qnu b a c o s false (m:Int) (d:Int) 0=some (tupR ru0,(tupR ru0,(b,(a,(c,(o,(s,(true,(((m+1:Nat):Int),((d:Int),0)))))))))):=by
 have e0:q5k.decL []=[]:=rfl
 have e1:q5l.decL []=[]:=rfl
 have w1:IntKind.i64.wrap ((m:Int)+1)=((m+1:Nat):Int):=qvt (n:=2000) (by omega) (by omega)
 refine qnw ?_
 by_cases h1:((m+1:Nat):Int)>100
 ·simp only [qo0,gL,dL,wI,q3l,q8h,EC.decL_encL,EC.isL_encL,e0,e1,w1,h1,decide_true,show (true==false)=false from rfl,Bool.false_eq_true,if_false]
  rfl
 ·simp only [qo0,gL,dL,wI,q3l,q8h,EC.decL_encL,EC.isL_encL,e0,e1,w1,h1,decide_false,beq_self_eq_true,if_true,show (d:Int)>8 by omega,decide_true]
  rfl
section
variable (b:ByteArray) (hb:b.size≤4000)
def PLO (d:Nat) (W:List S59) (sp:Nat⊕(List S59×List Tok×Nat)) (l:List S59) (st:Pst):Prop:=match sp with
 |.inr y=>l=W++y.1∧y.2.2≤100∧∃ n z R,y.2.1=z::R∧At b n z R∧st=stP b n z false ((y.2.2:Nat):Int) (d:Int) 0
 |.inl o=>∃ n z r,z.o=o∧st=stP b n z true r (d:Int) 0
def PR (f:Nat):Prop:=∀ (d m n:Nat) (x:Tok) (R:List Tok),At b n x R→d≤9→m≤100→2*(x::R).length+3≤f→(x::R).length≤4001 →
 ∃ t st,qnu b ((n:Nat):Int) ((x.k:Nat):Int) ((x.o:Nat):Int) (baL x.s) false (m:Int) (d:Int) 0=some (tupR t,(tupR t,st))∧PRO b d (sRule f d m (x::R)) t st
def PB (f:Nat):Prop:=∀ (d m n:Nat) (x:Tok) (R:List Tok),At b n x R→d≤8→m≤100→2*(x::R).length+3≤f→(x::R).length≤4001 →
 ∃ l st,qlu b ((n:Nat):Int) ((x.k:Nat):Int) ((x.o:Nat):Int) (baL x.s) false (m:Int) (d:Int) 0=some (l,(l,st))∧PLO b d [] (sBlock f (d+1) m (x::R)) l st
def PS (f:Nat):Prop:=∀ (d m n:Nat) (x:Tok) (R:List Tok) (W:List S59),At b n x R→d≤9→m≤100→2*(x::R).length+4≤f→W.length+(x::R).length≤4001 →
 ∃ l st,qo4 W.length b ((n:Nat):Int) ((x.k:Nat):Int) ((x.o:Nat):Int) (baL x.s) false (m:Int) (d:Int) 0 W=some (((),(l.length,false)),(st,l))∧PLO b d W (sRules f d m (x::R)) l st
include hb
theorem quh (f n:Nat) (x:Tok) (R:List Tok) (r dd:Int) (hA:At b n x R) (hf:2*(x::R).length+1≤f) (hl:(x::R).length≤4001) :
  ∃ t st,qot b ((n:Nat):Int) ((x.k:Nat):Int) ((x.o:Nat):Int) (baL x.s) false r dd 0=some (tup t,(tup t,st))∧PO b r dd 0 (sTest f 1 (x::R)) t st:=(pt_all b hb f).1 0 n x R r dd hA (by omega) hf hl
theorem qe8 {f:Nat} (ihs:PS b f):PB b (f+1):=by
 intro d m n x R hA hd hm hf hl
 simp only [List.length_cons] at hf hl
 simp only [sBlock,sNeed]
 cases hc:isT 4 [123] (x::R) with
 |false =>
  have h1:=qcb (b:=b) (n:=n) hc ((m:Nat):Int) (d:Int) 0
  have h2:=qrn (qaf b ((n:Nat):Int) ((x.k:Nat):Int) ((x.o:Nat):Int) (baL x.s) ((m:Nat):Int) ((d+1:Nat):Int) 0 [])
  exact ⟨[],_,q3h (by omega) h1 h2 (qca _ _ _ _ _ _ _ _ _),n,x,_,rfl,rfl⟩
 |true =>
  obtain ⟨n1,y,R',rfl,g2,g3⟩:=qcc hb hA hc ((m:Nat):Int) (d:Int) 0
  simp only [List.length_cons] at hf hl
  obtain ⟨l,st,q1,q2⟩:=ihs (d+1) m n1 y R' [] g2 (by omega) hm (by simp only [List.length_cons];omega) (by simp only [List.length_cons,List.length_nil];omega)
  have q1:=qrn q1
  dsimp only [thn]
  simp only [if_true,List.tail_cons]
  cases hs:sRules f (d+1) m (y::R') with
  |inl o =>
   rw [hs] at q2
   obtain ⟨n2,z,r2,z1,rfl⟩:=q2
   exact ⟨l,_,q3h (by omega) g3 q1 (qca _ _ _ _ _ _ _ _ _),n2,z,r2,z1,rfl⟩
  |inr w =>
   rw [hs] at q2
   obtain ⟨rfl,q3,n2,z,R2,j1,j2,rfl⟩:=q2
   dsimp only
   rw [j1]
   cases hc2:isT 4 [125] (z::R2) with
   |false =>
    have h3:=qcb (b:=b) (n:=n2) hc2 ((w.2.2:Nat):Int) ((d+1:Nat):Int) 0
    exact ⟨_,_,q3h (by omega) g3 q1 h3,n2,z,_,rfl,rfl⟩
   |true =>
    obtain ⟨n3,z3,R3,rfl,k2,k3⟩:=qcc hb j2 hc2 ((w.2.2:Nat):Int) ((d+1:Nat):Int) 0
    exact ⟨_,_,q3h (by omega) g3 q1 k3,rfl,q3,n3,z3,R3,rfl,k2,rfl⟩
theorem qfj {f:Nat} (ihb:PB b f):PR b (f+1):=by
 intro d m n x R hA hd hm hf hl
 simp only [List.length_cons] at hf hl
 simp only [sRule]
 by_cases hdeep:100<m+1∨8<d
 ·rw [if_pos (by omega)]
  exact ⟨ru0,_,qgu b _ _ _ _ m d (by omega) hdeep,n,x,_,rfl,rfl⟩
 have hm1:m+1≤100:=by omega
 have hd8:d≤8:=by omega
 have nos:∀ w:List UInt8,¬ (x.k=2∧x.s=w)→qm1 2 (baL w) b ((n:Nat):Int) ((x.k:Nat):Int) ((x.o:Nat):Int) (baL x.s) false ((m+1:Nat):Int) (d:Int) 0=some (false,(false,(b,(((n:Nat):Int),(((x.k:Nat):Int),(((x.o:Nat):Int),(baL x.s,(false,(((m+1:Nat):Int),((d:Int),0)))))))))):=fun w hw =>
  is_no (k:=2) (R:=R) (by simp only [isT,Bool.and_eq_false_iff,beq_eq_false_iff_ne];by_cases e:x.k=2;exact .inr (fun e2=>hw ⟨e,e2⟩);exact .inl e) _ _ _
 by_cases hx:x.k=2
 case neg =>
  rw [if_pos (by omega)]
  exact ⟨_,_,qgt hm1 hd8 (nos wIf (fun e=>hx e.1)) (nos wSet (fun e=>hx e.1)) (nos wStop (fun e=>hx e.1)) (qs b (R:=R) (fun e=>hx e.1)),n,x,_,rfl,rfl⟩
 rw [if_neg (by omega)]
 by_cases h1:x.s=wIf
 ·rw [if_pos h1]
  obtain ⟨n1,y,R',rfl,g2,g3⟩:=q9z hb hA (k:=2) rfl (w:=wIf) (by simp [isT,hx,h1]) ((m+1:Nat):Int) (d:Int) 0
  simp only [List.length_cons] at hf hl
  obtain ⟨t,st,q1,q2⟩:=quh b hb f n1 y R' ((m+1:Nat):Int) (d:Int) g2 (by simp only [List.length_cons];omega) (by simp only [List.length_cons];omega)
  cases hs:sTest f 1 (y::R') with
  |inl o =>
   rw [hs] at q2
   obtain ⟨n2,z,z1,rfl⟩:=q2
   exact ⟨_,_,qgw hm1 hd8 g3 q1 (q3g _ _ _ _ _ _ _ d (by omega)) (q9y _ _ _ _ _ _ _ _ _ _),n2,z,_,z1,rfl⟩
  |inr w =>
   have hlen:=qb6 hs
   rw [hs] at q2
   obtain ⟨rfl,n2,z,R2,j1,j2,rfl⟩:=q2
   dsimp only [thn]
   rw [j1] at hlen ⊢
   simp only [List.length_cons] at hlen
   obtain ⟨l,st2,k1,k2⟩:=ihb d (m+1) n2 z R2 j2 hd8 hm1 (by simp only [List.length_cons];omega) (by simp only [List.length_cons];omega)
   cases hs2:sBlock f (d+1) (m+1) (z::R2) with
   |inl o =>
    rw [hs2] at k2
    obtain ⟨n3,z3,r3,z4,rfl⟩:=k2
    exact ⟨_,_,qgw hm1 hd8 g3 q1 k1 (q9y _ _ _ _ _ _ _ _ _ _),n3,z3,_,z4,rfl⟩
   |inr v =>
    have hlen2:=qb3 hs2
    rw [hs2] at k2
    obtain ⟨k3,k4,n3,z3,R3,u1,u2,rfl⟩:=k2
    have k3:l=v.1:=by simpa using k3
    subst k3
    dsimp only
    rw [u1] at hlen2 ⊢
    simp only [List.length_cons] at hlen2
    cases hc:isT 2 wElse (z3::R3) with
    |false =>
     have h5:=is_no (b:=b) (n:=n3) hc ((v.2.2:Nat):Int) (d:Int) 0
     rw [if_neg (by simp)]
     exact ⟨_,_,qgw hm1 hd8 g3 q1 k1 h5,rfl,k4,n3,z3,R3,rfl,u2,rfl⟩
    |true =>
     obtain ⟨n4,z4,R4,rfl,p2,p3⟩:=q9z hb u2 (k:=2) rfl hc ((v.2.2:Nat):Int) (d:Int) 0
     rw [if_pos rfl]
     simp only [List.length_cons] at hlen2
     obtain ⟨l2,st5,k5,k6⟩:=ihb d v.2.2 n4 z4 R4 p2 hd8 k4 (by simp only [List.length_cons];omega) (by simp only [List.length_cons];omega)
     simp only [List.tail_cons]
     cases hs3:sBlock f (d+1) v.2.2 (z4::R4) with
     |inl o =>
      rw [hs3] at k6
      obtain ⟨n5,z5,r5,z6,rfl⟩:=k6
      exact ⟨_,_,qgx hm1 hd8 g3 q1 k1 p3 k5,n5,z5,_,z6,rfl⟩
     |inr e =>
      rw [hs3] at k6
      obtain ⟨k7,k8,n5,z5,R5,e1,e2,rfl⟩:=k6
      have k7:l2=e.1:=by simpa using k7
      subst k7
      exact ⟨_,_,qgx hm1 hd8 g3 q1 k1 p3 k5,rfl,k8,n5,z5,R5,e1,e2,rfl⟩
 rw [if_neg h1]
 have i1:=nos wIf (fun e=>h1 e.2)
 by_cases h2:x.s=wSet
 ·rw [if_pos h2]
  obtain ⟨n1,y,R',rfl,g2,g3⟩:=q9z hb hA (k:=2) rfl (w:=wSet) (by simp [isT,hx,h2]) ((m+1:Nat):Int) (d:Int) 0
  simp only [sTake]
  by_cases hy:y.k=2
  ·obtain ⟨n2,z,R2,rfl,q2,q3⟩:=qu9 hb g2 (k:=2) rfl hy ((m+1:Nat):Int) (d:Int) 0
   rw [if_pos hy]
   dsimp only [thn]
   by_cases hz:z.k=1
   ·obtain ⟨n3,z3,R3,rfl,p2,p3⟩:=qu9 hb q2 (k:=1) rfl hz ((m+1:Nat):Int) (d:Int) 0
    rw [if_pos hz]
    dsimp only
    obtain ⟨st,k1,k2⟩:=qo b hb hm1 p2 rfl (rul 3 t0 [] [] 0 y.s z.s 0) (fun st=>qnu b ((n:Nat):Int) ((x.k:Nat):Int) ((x.o:Nat):Int) (baL x.s) false (m:Int) (d:Int) 0=some (tupR (ruS (baL y.s) (baL z.s)),(tupR (ruS (baL y.s) (baL z.s)),st))) (fun st3 q4=>qgz hm1 hd8 i1 g3 q3 p3 q4)
    exact ⟨_,st,k1,k2⟩
   ·have p3:=qu7 (b:=b) (n:=n2) (k:=1) hz ((m+1:Nat):Int) (d:Int) 0
    rw [if_neg hz]
    exact ⟨_,_,qgz hm1 hd8 i1 g3 q3 p3 (qca _ _ _ _ _ _ _ _ _),n2,z,_,rfl,rfl⟩
  ·have q3:=qu7 (b:=b) (n:=n1) (k:=2) hy ((m+1:Nat):Int) (d:Int) 0
   rw [if_neg hy]
   exact ⟨_,_,qgz hm1 hd8 i1 g3 q3 (qu6 _ _ _ _ _ _ _ _ _) (qca _ _ _ _ _ _ _ _ _),n1,y,_,rfl,rfl⟩
 rw [if_neg h2]
 have i2:=nos wSet (fun e=>h2 e.2)
 by_cases h3:x.s=wStop
 ·rw [if_pos h3]
  obtain ⟨n1,y,R',rfl,g2,g3⟩:=q9z hb hA (k:=2) rfl (w:=wStop) (by simp [isT,hx,h3]) ((m+1:Nat):Int) (d:Int) 0
  obtain ⟨st,k1,k2⟩:=qo b hb hm1 g2 rfl (rul 4 t0 [] [] 0 [] [] 0) (fun st=>qnu b ((n:Nat):Int) ((x.k:Nat):Int) ((x.o:Nat):Int) (baL x.s) false (m:Int) (d:Int) 0=some (tupR ruT,(tupR ruT,st))) (fun st3 q4=>qh0 hm1 hd8 i1 i2 g3 q4)
  exact ⟨_,st,k1,k2⟩
 rw [if_neg h3]
 have i3:=nos wStop (fun e=>h3 e.2)
 obtain ⟨t,st,k1,k2⟩:=act_s b hb hA hm1 hx
 exact ⟨t,st,qgt hm1 hd8 i1 i2 i3 k1,k2⟩
omit hb in
theorem qfl {f:Nat} (ih:PR b f) (ihs:PS b f):PS b (f+1):=by
 intro d m n x R W hA hd hm hf hl
 simp only [List.length_cons] at hf hl
 simp only [sRules]
 have hstop:stopB x=true→qo4 W.length b ((n:Nat):Int) ((x.k:Nat):Int) ((x.o:Nat):Int) (baL x.s) false (m:Int) (d:Int) 0 W=some (((),(W.length,false)),((b,(((n:Nat):Int),(((x.k:Nat):Int),(((x.o:Nat):Int),(baL x.s,(false,((m:Int),((d:Int),0)))))))),W)):=fun h=>by
  refine qo6 ?_
  simp only [stopB,Bool.or_eq_true,beq_iff_eq,Bool.and_eq_true] at h
  by_cases h0:x.k=0
  ·have e0:((((x.k:Nat):Int) != 0)==true)=false:=by simp [h0]
   simp only [qoa,gL,dL,aL,dQ,q3l,q8h,EC.decL_encL,EC.isL_encL,all_59,apd_59,show ((!false)==true)=true from rfl,e0,Bool.false_eq_true,if_false,if_true]
  ·have e0:((((x.k:Nat):Int) != 0)==true)=true:=by simp;omega
   obtain ⟨h4,hs⟩:=h.resolve_left h0
   have e4:((((x.k:Nat):Int) != 4)==false)=true:=by simp [h4]
   have es:(ByteArray.toList (baL x.s)==ByteArray.toList (ByteArray.mk (List.toArray [(125:UInt8)])))=true:=by
    have:=beq_ba x.s [125]
    rw [hs] at this
    rw [hs]
    exact this.trans (by decide)
   simp only [qoa,gL,dL,aL,dQ,q3l,q8h,EC.decL_encL,EC.isL_encL,all_59,apd_59,show ((!false)==true)=true from rfl,e0,e4,es,Bool.not_true,Bool.false_eq_true,if_false,if_true]
 cases hst:stopB x with
 |true =>
  rw [if_pos rfl]
  exact ⟨W,_,hstop hst,by simp,hm,n,x,R,rfl,hA,rfl⟩
 |false =>
  rw [if_neg (by simp)]
  obtain ⟨t,st,q1,q2⟩:=ih d m n x R hA hd hm (by simp only [List.length_cons];omega) (by simp only [List.length_cons];omega)
  have e1:decide ((W.length+1+(W.length+1) / 4+192)*184≤281474976710656)=true:=by simp;omega
  have e2:decide (W.length+1≤9223372036854775807)=true:=by simp;omega
  have eL:(W++[t]).length=W.length+1:=by simp
  have go:∀ z,qo4 (W.length+1) st.1 st.2.1 st.2.2.1 st.2.2.2.1 st.2.2.2.2.1 st.2.2.2.2.2.1 st.2.2.2.2.2.2.1 st.2.2.2.2.2.2.2.1 st.2.2.2.2.2.2.2.2 (W++[t])=some z→qo4 W.length b ((n:Nat):Int) ((x.k:Nat):Int) ((x.o:Nat):Int) (baL x.s) false (m:Int) (d:Int) 0 W=some z:=fun z hz=>by
   refine qo6 ?_
   simp only [stopB,Bool.or_eq_false_iff,beq_eq_false_iff_ne,ne_eq,Bool.and_eq_false_iff] at hst
   have e0:((((x.k:Nat):Int) != 0)==true)=true:=by simp;omega
   by_cases h4:x.k=4
   ·have e4:((((x.k:Nat):Int) != 4)==false)=true:=by simp [h4]
    have es:(ByteArray.toList (baL x.s)==ByteArray.toList (ByteArray.mk (List.toArray [(125:UInt8)])))=false:=by
     have:=beq_ba x.s [125]
     refine this.trans ?_
     have:=hst.2.resolve_left (by simp [h4])
     simpa using this
    simp only [qoa,gL,dL,aL,dQ,q3l,q8h,EC.decL_encL,EC.isL_encL,all_59,apd_59,e0,e4,es,Bool.not_false,if_true,q1,Option.bind_some,List.length_cons,List.length_nil,Nat.zero_add,e1,e2,List.all_cons,List.all_nil,beq_self_eq_true,Bool.and_self,eta_R,hz]
   ·have e4:((((x.k:Nat):Int) != 4)==false)=false:=by simp;omega
    simp only [qoa,gL,dL,aL,dQ,q3l,q8h,EC.decL_encL,EC.isL_encL,all_59,apd_59,show ((!false)==true)=true from rfl,e0,e4,Bool.false_eq_true,if_false,if_true,q1,Option.bind_some,List.length_cons,List.length_nil,Nat.zero_add,e1,e2,List.all_cons,List.all_nil,beq_self_eq_true,Bool.and_self,eta_R,hz]
  cases hs:sRule f d m (x::R) with
  |inl o =>
   rw [hs] at q2
   obtain ⟨n2,z,r2,z1,rfl⟩:=q2
   have hd3:=qaf b ((n2:Nat):Int) ((z.k:Nat):Int) ((z.o:Nat):Int) (baL z.s) r2 (d:Int) 0 (W++[t])
   rw [eL] at hd3
   refine ⟨W++[t],stP b n2 z true r2 (d:Int) 0,go _ ?_,n2,z,r2,z1,rfl⟩
   rw [eL]
   exact hd3
  |inr w =>
   have hlen:=qb5 hs
   rw [hs] at q2
   obtain ⟨rfl,q3,n2,z,R2,j1,j2,rfl⟩:=q2
   dsimp only [thn]
   rw [j1] at hlen ⊢
   simp only [List.length_cons] at hlen
   obtain ⟨l,st2,k1,k2⟩:=ihs d w.2.2 n2 z R2 (W++[w.1]) j2 hd q3 (by simp only [List.length_cons];omega) (by rw [eL];simp only [List.length_cons];omega)
   rw [eL] at k1
   refine ⟨l,st2,go _ k1,?_⟩
   cases hs2:sRules f d w.2.2 (z::R2) with
   |inl o=>rw [hs2] at k2;exact k2
   |inr v =>
    rw [hs2] at k2
    obtain ⟨rfl,k3,k4⟩:=k2
    exact ⟨by simp,k3,k4⟩
theorem pr_all:∀ f,PR b f∧PB b f∧PS b f
 |0=>⟨fun d m n x R _ _ _ h=>by omega,fun d m n x R _ _ _ h=>by omega,fun d m n x R W _ _ _ h=>by omega⟩
 |f+1=>⟨qfj b hb (pr_all f).2.1,qe8 b hb (pr_all f).2.2,qfl b (pr_all f).1 (pr_all f).2.2⟩
omit hb
theorem qe5 (b:ByteArray) (hs:b.size≤4000→∀ l,sScript (bl b)=.inr l→l.length≤big∧okL l):qh5 b=some ((sParse (bl b)).1,(sParse (bl b)).2):=by
 have e1:q5l.decL []=[]:=rfl
 have hlen:(bl b).length=b.size:=by simp [bl]
 unfold sParse
 rw [hlen]
 by_cases h4:4000<b.size
 ·rw [if_pos h4]
  refine qh4 ?_
  simp only [qh6,gL,dL,q3l,q8h,EC.decL_encL,EC.isL_encL,show ((b.size:Nat):Int)>4000 by omega,decide_true,if_true,q72,Option.bind_some,e1]
 rw [if_neg h4]
 have hb:b.size≤4000:=by omega
 obtain ⟨n,x,R,q1,q2,q3⟩:=q11 hb (Nat.zero_le b.size) 0 0 noTx false 0 1 0
 rw [List.drop_zero] at q1
 have q1:toksF (bl b) 0=x::R:=q1
 have q3:ql2 b 0 0 0 noTx false 0 1 0=some ((),((),(b,(((n:Nat):Int),(((x.k:Nat):Int),(((x.o:Nat):Int),(baL x.s,(false,(0,(1,0)))))))))):=q3
 have hl:=quy ((bl b).length+1) (bl b) 0
 have hl:(toksF (bl b) 0).length≤(bl b).length+1:=hl
 rw [q1] at hl
 simp only [List.length_cons] at hl
 obtain ⟨l,st,k1,k2⟩:=(pr_all b hb (fuel (bl b))).2.2 1 0 n x R [] q2 (by omega) (by omega) (by unfold fuel;simp only [List.length_cons];omega) (by simp only [List.length_cons,List.length_nil];omega)
 have k1:=qrn k1
 have k1:qo1 b ((n:Nat):Int) ((x.k:Nat):Int) ((x.o:Nat):Int) (baL x.s) false 0 1 0=some (l,(l,st)):=k1
 have sc:sScript (bl b)=thn (sRules (fuel (bl b)) 1 0 (x::R)) fun y=>match y.2.1 with|x::_=>if x.k=0 then .inr y.1 else .inl x.o|[]=>.inl 0:=by
  unfold sScript
  rw [←q1];rfl
 have hsz:¬ ((b.size:Nat):Int)>4000:=by omega
 cases hr:sRules (fuel (bl b)) 1 0 (x::R) with
 |inl o =>
  rw [hr] at k2 sc
  obtain ⟨n2,z,r2,z1,rfl⟩:=k2
  have sc:sScript (bl b)=.inl o:=sc
  rw [sc]
  refine qh4 ?_
  simp only [qh6,gL,dL,q3l,q8h,EC.decL_encL,EC.isL_encL,hsz,decide_false,Bool.false_eq_true,if_false,q3,k1,q72,Option.bind_some,e1,show (true==false)=false from rfl,z1]
 |inr y =>
  rw [hr] at k2 sc
  obtain ⟨rfl,_,n2,z,R2,z1,z2,rfl⟩:=k2
  simp only [thn,z1] at sc
  by_cases hz:z.k=0
  ·rw [if_pos hz] at sc
   obtain ⟨o1,o2⟩:=hs hb _ sc
   have hv:=qvf y.1 o1 o2
   have e0:(((z.k:Nat):Int) != 0)=false:=by simp [hz]
   rw [sc]
   simp only [List.nil_append] at *
   by_cases hf:(scriptF y.1).1=0
   ·have ef:((scriptF y.1).1 != 0)=false:=by simp [hf]
    refine qh4 ?_
    simp only [qh6,gL,dL,q3l,q8h,EC.decL_encL,EC.isL_encL,hsz,decide_false,Bool.false_eq_true,if_false,q3,k1,q72,q71,none_s,hv,hf,e0,Option.bind_some,e1,beq_self_eq_true,if_true,ne_eq,not_true_eq_false,bne_self_eq_false,Bool.false_eq_true,if_false]
   ·have ef:((scriptF y.1).1 != 0)=true:=by simp [hf]
    refine qh4 ?_
    simp only [qh6,gL,dL,q3l,q8h,EC.decL_encL,EC.isL_encL,hsz,decide_false,Bool.false_eq_true,if_false,q3,k1,q72,q71,hv,ef,hf,e0,Option.bind_some,e1,beq_self_eq_true,if_true,ne_eq,not_false_eq_true]
  ·rw [if_neg hz] at sc
   have e0:(((z.k:Nat):Int) != 0)=true:=by simp;omega
   rw [sc]
   refine qh4 ?_
   simp only [qh6,gL,dL,q3l,q8h,EC.decL_encL,EC.isL_encL,hsz,decide_false,Bool.false_eq_true,if_false,q3,k1,q72,Option.bind_some,e1,beq_self_eq_true,if_true,e0]
end
end Go.Proofs.YtognhcibcocbkaaGreatDoor
namespace Go.Proofs.YtognhcibcocbkaaGreatDoor
open Go.RowKit
section
variable (b:ByteArray) (hb:b.size≤4000)
include hb
omit hb in
omit hb in
end
section
variable (L0:List Tok)
variable (hL:L0.length≤4001)
include hL
end
section
variable (L0:List Tok)
variable (hL:L0.length≤4001)
include hL
omit hL
include hL
end
section
variable (L0:List Tok) (hL:L0.length≤4001)
include hL
end
section
variable (W:List S53) (d:Int)
variable (fr:Int) (s:List UInt8) (p1 p2 p3 j1 j2 j3:Int) (out:List S59)
end
section
variable (L0:List Tok) (hL:L0.length≤4001)
include hL
omit hL in
omit hL in
omit hL in
omit hL in
omit hL in
end
def Lok (M:List (Nat×List UInt8)):Prop:=(∀ e∈M,e.2.length≤4000)∧M.length≤5000
theorem Lok.app {a b:List (Nat×List UInt8)} (h:Lok (a++b)):Lok b:=⟨fun e he=>h.1 e (List.mem_append_right _ he),by have:=h.2;rw [List.length_append] at this;omega⟩
theorem Lok.cons {a:Nat×List UInt8} {b:List (Nat×List UInt8)} (h:Lok (a::b)):Lok b:=Lok.app (a:=[a]) h
theorem qdm {s:List UInt8} {L L':List Tok} (h:sNeed s L=.inr L') (hL:Lok (L.map er)):Lok (L'.map er):=by rw [q6z h] at hL;exact hL.cons
theorem qdo {k:Nat} {L L':List Tok} {s:List UInt8} (h:sTake k L=.inr (s,L')) (hL:Lok (L.map er)):Lok (L'.map er)∧s.length≤4000:=by
 rw [f_take h] at hL
 exact ⟨hL.cons,hL.1 (k,s) (by simp)⟩
theorem ok_lt {f d:Nat} {L L':List Tok} {t:S57} (h:sTest f d L=.inr (t,L')) (hL:Lok (L.map er)):Lok (L'.map er):=by
 obtain ⟨C,_,h2,_⟩:=(f_test f).1 d L t L' h
 rw [h2] at hL
 exact hL.app
theorem tl_ok {L:List Tok} {k:Nat} {w:List UInt8} (h:isT k w L=true) (hL:Lok (L.map er)):Lok (L.tail.map er):=by rw [q9x h] at hL;exact hL.cons
theorem qdp:∀ f,(∀ d L t L',sTest f d L=.inr (t,L')→Lok (L.map er)→okT t)∧(∀ d L ts L',sTests f d L=.inr (ts,L')→Lok (L.map er)→okTL ts∧ts.length≤L.length)
 |0=>⟨fun d L t L' h=>by simp [sTest] at h,fun d L t L' h=>by simp [sTests] at h⟩
 |f+1=>by
  obtain ⟨ih,ihs⟩:=qdp f
  have pl:∀ (k:Nat) (nm:List UInt8) (p:Nat) (tx:List UInt8) (n:Nat),okT (tst k [] nm p tx n):=fun k nm p tx n=>(qdl _).2 ⟨Nat.zero_le _,trivial⟩
  refine ⟨fun d L t L' h hL=>?_,fun d L ts L' h hL=>?_⟩
  ·cases L with
   |nil=>simp [sTest] at h
   |cons x r =>
    have hr:Lok (r.map er):=Lok.cons hL
    simp only [sTest] at h
    split at h
    ·cases h
    have lst:∀ k:Nat,(thn (sNeed [40] r) fun r1=>thn (sTests f (d+1) r1) fun y=>thn (sNeed [41] y.2) fun r2=>Sum.inr (tst k y.1 [] 0 [] 0,r2))=.inr (t,L')→okT t:=fun k h=>by
     obtain ⟨r1,h1,h⟩:=quq h
     obtain ⟨y,h2,h⟩:=quq h
     obtain ⟨r2,h3,h⟩:=quq h
     injection h with h
     injection h with h _
     subst h
     have:=ihs (d+1) r1 y.1 y.2 h2 (qdm h1 hr)
     have hl:=(qdm h1 hr).2
     rw [List.length_map] at hl
     exact (qdl _).2 ⟨by show y.1.length≤big;unfold big;omega,this.1⟩
    split at h
    ·cases h
    ·injection h with h;injection h with h _;subst h;exact pl _ _ _ _ _
    ·obtain ⟨y,h1,h⟩:=quq h
     injection h with h;injection h with h _;subst h
     have:=ih (d+1) r y.1 y.2 h1 hr
     exact (qdl _).2 ⟨by show [y.1].length≤big;unfold big;simp,this,trivial⟩
    ·exact lst 3 h
    ·exact lst 4 h
    ·obtain ⟨y,h1,h⟩:=quq h
     obtain ⟨z,h2,h⟩:=quq h
     injection h with h;injection h with h _;subst h;exact pl _ _ _ _ _
    ·obtain ⟨y,h1,h⟩:=quq h
     injection h with h;injection h with h _;subst h;exact pl _ _ _ _ _
    ·obtain ⟨y,h1,h⟩:=quq h
     injection h with h;injection h with h _;subst h;exact pl _ _ _ _ _
    ·obtain ⟨y,h1,h⟩:=quq h
     injection h with h;injection h with h _;subst h;exact pl _ _ _ _ _
    ·obtain ⟨y,h1,h⟩:=quq h
     injection h with h;injection h with h _;subst h;exact pl _ _ _ _ _
  ·simp only [sTests] at h
   obtain ⟨y,h1,h⟩:=quq h
   have k1:=ih d L y.1 y.2 h1 hL
   have k2:=qb6 h1
   split at h
   ·rename_i hc
    obtain ⟨z,h2,h⟩:=quq h
    injection h with h;injection h with h _;subst h
    have:=ihs d y.2.tail z.1 z.2 h2 (tl_ok hc (ok_lt h1 hL))
    have hl:y.2.tail.length≤y.2.length:=by simp
    exact ⟨⟨k1,this.1⟩,by simp only [List.length_cons];omega⟩
   ·injection h with h;injection h with h _;subst h
    exact ⟨⟨k1,trivial⟩,by simp only [List.length_cons,List.length_nil];omega⟩
theorem qdn:∀ f,(∀ d m L r L' m',sRule f d m L=.inr (r,L',m')→Lok (L.map er)→okR r)∧(∀ d m L l L' m',sBlock f d m L=.inr (l,L',m')→Lok (L.map er)→okL l∧l.length≤5000) ∧
  (∀ d m L l L' m',sRules f d m L=.inr (l,L',m')→Lok (L.map er)→okL l∧l.length≤L.length)
 |0=>⟨fun d m L t L' m' h=>by simp [sRule] at h,fun d m L t L' m' h=>by simp [sBlock] at h,fun d m L t L' m' h=>by simp [sRules] at h⟩
 |f+1=>by
  obtain ⟨ih,ihb,ihs⟩:=qdn f
  have pl:∀ (k:Nat) (act:Int) (nm tx:List UInt8) (n:Nat),nm.length≤4000→okR ⟨k,t0.Kind,t0.Tests,t0.Name,t0.Pattern,t0.Text,t0.N,[],[],act,baL nm,baL tx,n⟩:=fun k act nm tx n hn =>
   (okR_eq _).2 ⟨⟨Nat.zero_le _,trivial⟩,⟨Nat.zero_le _,trivial⟩,⟨Nat.zero_le _,trivial⟩,by show (baL nm).size≤big;rw [q2q];unfold big;omega⟩
  refine ⟨fun d m L r L' m' h hL=>?_,fun d m L l L' m' h hL=>?_,fun d m L l L' m' h hL=>?_⟩
  ·cases L with
   |nil=>simp [sRule] at h
   |cons x r0 =>
    have hr:Lok (r0.map er):=Lok.cons hL
    simp only [sRule] at h
    split at h
    ·cases h
    split at h
    ·obtain ⟨t,h1,h⟩:=quq h
     obtain ⟨b,h2,h⟩:=quq h
     have k1:=(qdp f).1 1 r0 t.1 t.2 h1 hr
     have k2:=ihb (d+1) (m+1) t.2 b.1 b.2.1 b.2.2 h2 (ok_lt h1 hr)
     have hb:Lok (b.2.1.map er):=by
      obtain ⟨_,C,q,_⟩:=(q70 f).2.1 (d+1) (m+1) t.2 b.1 b.2.1 b.2.2 h2
      have:=ok_lt h1 hr
      rw [q] at this
      exact this.app
     obtain ⟨o1,o2⟩:=(qdl _).1 k1
     split at h
     ·rename_i hc
      obtain ⟨e,h3,h⟩:=quq h
      injection h with h;injection h with h _;subst h
      have k3:=ihb (d+1) b.2.2 b.2.1.tail e.1 e.2.1 e.2.2 h3 (tl_ok hc hb)
      exact (okR_eq _).2 ⟨⟨o1,o2⟩,⟨by show b.1.length≤big;unfold big;omega,k2.1⟩,⟨by show e.1.length≤big;unfold big;omega,k3.1⟩,Nat.zero_le _⟩
     ·injection h with h;injection h with h _;subst h
      exact (okR_eq _).2 ⟨⟨o1,o2⟩,⟨by show b.1.length≤big;unfold big;omega,k2.1⟩,⟨Nat.zero_le _,trivial⟩,Nat.zero_le _⟩
    split at h
    ·obtain ⟨a,h1,h⟩:=quq h
     obtain ⟨b,h2,h⟩:=quq h
     obtain ⟨r1,h3,h⟩:=quq h
     injection h with h;injection h with h _;subst h
     exact pl _ _ _ _ _ (qdo h1 hr).2
    split at h
    ·obtain ⟨r1,h3,h⟩:=quq h
     injection h with h;injection h with h _;subst h
     exact pl _ _ _ _ _ (by simp)
    split at h
    ·cases h
    split at h
    ·obtain ⟨a,h1,h⟩:=quq h
     obtain ⟨r1,h3,h⟩:=quq h
     injection h with h;injection h with h _;subst h
     exact pl _ _ _ _ _ (by simp)
    split at h
    ·obtain ⟨a,h1,h⟩:=quq h
     obtain ⟨r1,h3,h⟩:=quq h
     injection h with h;injection h with h _;subst h
     exact pl _ _ _ _ _ (by simp)
    ·obtain ⟨r1,h3,h⟩:=quq h
     injection h with h;injection h with h _;subst h
     exact pl _ _ _ _ _ (by simp)
  ·simp only [sBlock] at h
   obtain ⟨r,h1,h⟩:=quq h
   obtain ⟨y,h2,h⟩:=quq h
   obtain ⟨r2,h3,h⟩:=quq h
   injection h with h;injection h with h _;subst h
   have k1:=ihs d m r y.1 y.2.1 y.2.2 h2 (qdm h1 hL)
   have hl:=(qdm h1 hL).2
   rw [List.length_map] at hl
   exact ⟨k1.1,by omega⟩
  ·cases L with
   |nil=>simp only [sRules] at h;injection h with h;injection h with h _;subst h;exact ⟨trivial,Nat.zero_le _⟩
   |cons x r0 =>
    simp only [sRules] at h
    split at h
    ·injection h with h;injection h with h _;subst h;exact ⟨trivial,Nat.zero_le _⟩
    ·obtain ⟨y,h1,h⟩:=quq h
     obtain ⟨z,h2,h⟩:=quq h
     injection h with h;injection h with h _;subst h
     have k1:=ih d m (x::r0) y.1 y.2.1 y.2.2 h1 hL
     have k0:=qb5 h1
     have hb:Lok (y.2.1.map er):=by
      obtain ⟨_,w,C,_,q,_⟩:=(q70 f).1 d m (x::r0) y.1 y.2.1 y.2.2 h1
      rw [q] at hL
      exact hL.cons.app
     have k2:=ihs d y.2.2 y.2.1 z.1 z.2.1 z.2.2 h2 hb
     exact ⟨⟨k1,k2.1⟩,by simp only [List.length_cons] at k0 ⊢;omega⟩
theorem q8n:∀ {L:List Tok},Good L→∀ e∈L.map er,e.2.length≤4000
 |[],h=>h.elim
 |x::R,h=>by
  intro e he
  rcases List.mem_cons.1 he with rfl|he
  ·exact h.2.1
  ·have:=h.2.2
   split at this
   ·subst this;cases he
   ·exact q8n this e he
theorem qro {t:List UInt8} (ht:t.length≤4000) {l:List S59} (h:sScript t=.inr l):l.length≤big∧okL l:=by
 have hg:=q8o 4000 t 0 ht (Nat.le_refl _)
 have hl:=quy (t.length+1) t 0
 have hl:(toksF t 0).length≤t.length+1:=hl
 have hk:Lok ((toksF t 0).map er):=⟨q8n hg,by rw [List.length_map];omega⟩
 unfold sScript at h
 obtain ⟨y,h1,h⟩:=quq h
 have k:=(qdn (fuel t)).2.2 1 0 (toksF t 0) y.1 y.2.1 y.2.2 h1 hk
 split at h
 ·split at h
  ·injection h with h;subst h
   exact ⟨by unfold big;omega,k.1⟩
  ·cases h
 ·cases h
end Go.Proofs.YtognhcibcocbkaaGreatDoor
