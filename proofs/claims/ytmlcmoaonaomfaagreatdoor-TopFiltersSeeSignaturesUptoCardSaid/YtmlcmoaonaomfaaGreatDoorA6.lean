/- The parser reads rules. -/
import Derived.Test.YtmlcmoaonaomfaaGreatDoorA5
namespace Go.Proofs.YtmlcmoaonaomfaaGreatDoor
set_option linter.unusedSimpArgs false
open Go.RowKit
def ruI (t:S35) (l l2:List S38):S38:=⟨1,t.Kind,t.Tests,t.Name,t.Pattern,t.Text,t.N,l,l2,0,noTx,noTx,0⟩
def ruS (nm tx:BA):S38:=⟨3,0,[],noTx,0,noTx,0,[],[],0,nm,tx,0⟩
def ruT:S38:=⟨4,0,[],noTx,0,noTx,0,[],[],0,noTx,noTx,0⟩
def ru0:S38:=⟨0,0,[],noTx,0,noTx,0,[],[],0,noTx,noTx,0⟩
theorem blk1_s (b:BA) (a c o:Int) (s:BA) (bd:Bool) (r d ts:Int):q10l b a c o s bd r d ts=some ((),((),((),(b,a,c,o,s,bd,r,IntKind.i64.wrap (d - 1),ts)))):=q10n rfl
theorem qph (b:BA) (a c o:Int) (s:BA) (r d ts:Int) (W:List S38):q132 W.length b a c o s true r d ts W=some (((),(W.length,false)),((b,a,c,o,s,true,r,d,ts),W)):=by
 refine q134 ?_
 simp only [q138,gL,dL,aL,dQ,q85,qk3,x25q,x26q,x27q,qol,q4x,q3k,q43,q164,qoo,q52,q3n,q46,q16b,qom,q4y,q4z,q3l,q44,q166,q165,q167,qon,q50,q51,q3m,q45,q169,q168,q16a,qoh,q4c,q4d,q4e,q4f,q4g,q4h,q3g,q3z,q15h,q15g,q15i,q15j,q15k,q15l,q15m,qoj,q4j,q4k,q4o,q4p,q4q,q4r,q4s,q4t,q4u,q4v,q4l,q4m,q4n,q3i,q41,q15p,q15o,q15u,q15t,q15v,q15w,q15x,q15y,q15z,q160,q161,q162,q15q,q15r,q15s,qoi,q4i,q3h,q40,q15n,show ((!true)==true)=false from rfl,x1q,x21q,x20q]
theorem q15a {b:BA} {a c o:Int} {s:BA} {bd:Bool} {r d ts:Int} {st:Pst} {l:List S38} (h:q132 0 b a c o s bd r d ts []=some (((),(l.length,false)),(st,l))):q12z b a c o s bd r d ts=some (l,(l,st)):=by
 have e1:qcw.decL []=[]:=rfl
 refine q131 ?_
 simp only [q13c,gL,dL,q85,qk3,x25q,x26q,x27q,qol,q4x,q3k,q43,q164,qoo,q52,q3n,q46,q16b,qom,q4y,q4z,q3l,q44,q166,q165,q167,qon,q50,q51,q3m,q45,q169,q168,q16a,qoh,q4c,q4d,q4e,q4f,q4g,q4h,q3g,q3z,q15h,q15g,q15i,q15j,q15k,q15l,q15m,qoj,q4j,q4k,q4o,q4p,q4q,q4r,q4s,q4t,q4u,q4v,q4l,q4m,q4n,q3i,q41,q15p,q15o,q15u,q15t,q15v,q15w,q15x,q15y,q15z,q160,q161,q162,q15q,q15r,q15s,qoi,q4i,q3h,q40,q15n,e1,h,x0q,x20q]
theorem q7s (b:BA) (a c o:Int) (s:BA) (r ts:Int) (d:Nat) (hd:d<=100):q10s b a c o s true r (d:Int) ts=some ([],([],(b,a,c,o,s,true,r,(d:Int),ts))):=by
 have w1:IntKind.i64.wrap ((d:Int)+1)=((d+1:Nat):Int):=q1et (n:=1000) (by omega) (by omega)
 have w2:IntKind.i64.wrap (((d+1:Nat):Int) - 1)=(d:Int):=by rw [q1es (by omega)];omega
 have hs:=q15a (qph b a c o s r ((d+1:Nat):Int) ts [])
 refine q10u ?_
 simp only [q10y,gL,dL,wI,q85,qk3,x25q,x26q,x27q,qol,q4x,q3k,q43,q164,qoo,q52,q3n,q46,q16b,qom,q4y,q4z,q3l,q44,q166,q165,q167,qon,q50,q51,q3m,q45,q169,q168,q16a,qoh,q4c,q4d,q4e,q4f,q4g,q4h,q3g,q3z,q15h,q15g,q15i,q15j,q15k,q15l,q15m,qoj,q4j,q4k,q4o,q4p,q4q,q4r,q4s,q4t,q4u,q4v,q4l,q4m,q4n,q3i,q41,q15p,q15o,q15u,q15t,q15v,q15w,q15x,q15y,q15z,q160,q161,q162,q15q,q15r,q15s,qoi,q4i,q3h,q40,q15n,qt3,hs,blk1_s,x0q,w1,w2,x20q]
theorem q7t {b:BA} {a c o:Int} {s:BA} {bd:Bool} {r ts:Int} {d:Nat} (hd:d<=100) {a1 c1 o1:Int} {s1:BA} {bd1:Bool} {r1 ts1:Int} {a2 c2 o2:Int} {s2:BA} {bd2:Bool} {r2 ts2:Int} {a3 c3 o3:Int} {s3:BA} {bd3:Bool} {r3 ts3:Int} {l:List S38}
  (h1:q11z (ByteArray.mk (List.toArray [123])) b a c o s bd r (d:Int) ts=some ((),((),(b,(a1,(c1,(o1,(s1,(bd1,(r1,((d:Int),ts1)))))))))))
  (h2:q12z b a1 c1 o1 s1 bd1 r1 ((d+1:Nat):Int) ts1=some (l,(l,(b,(a2,(c2,(o2,(s2,(bd2,(r2,(((d+1:Nat):Int),ts2)))))))))))
  (h3:q11z (ByteArray.mk (List.toArray [125])) b a2 c2 o2 s2 bd2 r2 ((d+1:Nat):Int) ts2=some ((),((),(b,(a3,(c3,(o3,(s3,(bd3,(r3,(((d+1:Nat):Int),ts3))))))))))) :
  q10s b a c o s bd r (d:Int) ts=some (l,(l,(b,(a3,(c3,(o3,(s3,(bd3,(r3,((d:Int),ts3)))))))))):=by
 have w1:IntKind.i64.wrap ((d:Int)+1)=((d+1:Nat):Int):=q1et (n:=1000) (by omega) (by omega)
 have w2:IntKind.i64.wrap (((d+1:Nat):Int) - 1)=(d:Int):=by rw [q1es (by omega)];omega
 refine q10u ?_
 simp only [q10y,gL,dL,wI,q85,qk3,x25q,x26q,x27q,qol,q4x,q3k,q43,q164,qoo,q52,q3n,q46,q16b,qom,q4y,q4z,q3l,q44,q166,q165,q167,qon,q50,q51,q3m,q45,q169,q168,q16a,qoh,q4c,q4d,q4e,q4f,q4g,q4h,q3g,q3z,q15h,q15g,q15i,q15j,q15k,q15l,q15m,qoj,q4j,q4k,q4o,q4p,q4q,q4r,q4s,q4t,q4u,q4v,q4l,q4m,q4n,q3i,q41,q15p,q15o,q15u,q15t,q15v,q15w,q15x,q15y,q15z,q160,q161,q162,q15q,q15r,q15s,qoi,q4i,q3h,q40,q15n,h1,h2,h3,blk1_s,x0q,w1,w2,x20q]
section
variable {b:BA} {a c o:Int} {s:BA} {m d:Nat} (hm:m+1<=100) (hd:d<=8) {a1 c1 o1:Int} {s1:BA} {bd1:Bool} {r1 d1 ts1:Int} {a2 c2 o2:Int} {s2:BA} {bd2:Bool} {r2 d2 ts2:Int} {a3 c3 o3:Int} {s3:BA} {bd3:Bool} {r3 d3 ts3:Int} {a4 c4 o4:Int} {s4:BA} {bd4:Bool} {r4 d4 ts4:Int} {t:S35} {l l2:List S38} {st:Pst}
include hm hd
theorem qyf (hi:q10z 2 (ByteArray.mk (List.toArray [105,102])) b a c o s false ((m+1:Nat):Int) (d:Int) 0=some (true,(true,(b,(a1,(c1,(o1,(s1,(bd1,(r1,(d1,ts1)))))))))))
  (ht:q13r b a1 c1 o1 s1 bd1 r1 d1 ts1=some (tup t,(tup t,(b,(a2,(c2,(o2,(s2,(bd2,(r2,(d2,ts2))))))))))) (hb1:q10s b a2 c2 o2 s2 bd2 r2 d2 ts2=some (l,(l,(b,(a3,(c3,(o3,(s3,(bd3,(r3,(d3,ts3))))))))))) (he:q10z 2 (ByteArray.mk (List.toArray [101,108,115,101])) b a3 c3 o3 s3 bd3 r3 d3 ts3=some (false,(false,st))) :
  q12s b a c o s false (m:Int) (d:Int) 0=some (tupR (ruI t l []),(tupR (ruI t l []),st)):=by
 have e0:qcu.decL []=[]:=rfl
 have e1:qcw.decL []=[]:=rfl
 have w1:IntKind.i64.wrap ((m:Int)+1)=((m+1:Nat):Int):=q1et (n:=1000) (by omega) (by omega)
 refine q12u ?_
 simp only [q12y,gL,dL,wI,q85,qk3,x25q,x26q,x27q,qol,q4x,q3k,q43,q164,qoo,q52,q3n,q46,q16b,qom,q4y,q4z,q3l,q44,q166,q165,q167,qon,q50,q51,q3m,q45,q169,q168,q16a,qoh,q4c,q4d,q4e,q4f,q4g,q4h,q3g,q3z,q15h,q15g,q15i,q15j,q15k,q15l,q15m,qoj,q4j,q4k,q4o,q4p,q4q,q4r,q4s,q4t,q4u,q4v,q4l,q4m,q4n,q3i,q41,q15p,q15o,q15u,q15t,q15v,q15w,q15x,q15y,q15z,q160,q161,q162,q15q,q15r,q15s,qoi,q4i,q3h,q40,q15n,e0,e1,w1,show ¬ ((m+1:Nat):Int)>100 by omega,show ¬ (d:Int)>8 by omega,decide_false,x19q,x20q,x1q,x21q,hi,ht,hb1,he,x0q]
 rfl
theorem qyg (hi:q10z 2 (ByteArray.mk (List.toArray [105,102])) b a c o s false ((m+1:Nat):Int) (d:Int) 0=some (true,(true,(b,(a1,(c1,(o1,(s1,(bd1,(r1,(d1,ts1)))))))))))
  (ht:q13r b a1 c1 o1 s1 bd1 r1 d1 ts1=some (tup t,(tup t,(b,(a2,(c2,(o2,(s2,(bd2,(r2,(d2,ts2))))))))))) (hb1:q10s b a2 c2 o2 s2 bd2 r2 d2 ts2=some (l,(l,(b,(a3,(c3,(o3,(s3,(bd3,(r3,(d3,ts3))))))))))) (he:q10z 2 (ByteArray.mk (List.toArray [101,108,115,101])) b a3 c3 o3 s3 bd3 r3 d3 ts3=some (true,(true,(b,(a4,(c4,(o4,(s4,(bd4,(r4,(d4,ts4)))))))))))
  (hb2:q10s b a4 c4 o4 s4 bd4 r4 d4 ts4=some (l2,(l2,st))) :
  q12s b a c o s false (m:Int) (d:Int) 0=some (tupR (ruI t l l2),(tupR (ruI t l l2),st)):=by
 have e0:qcu.decL []=[]:=rfl
 have e1:qcw.decL []=[]:=rfl
 have w1:IntKind.i64.wrap ((m:Int)+1)=((m+1:Nat):Int):=q1et (n:=1000) (by omega) (by omega)
 refine q12u ?_
 simp only [q12y,gL,dL,wI,q85,qk3,x25q,x26q,x27q,qol,q4x,q3k,q43,q164,qoo,q52,q3n,q46,q16b,qom,q4y,q4z,q3l,q44,q166,q165,q167,qon,q50,q51,q3m,q45,q169,q168,q16a,qoh,q4c,q4d,q4e,q4f,q4g,q4h,q3g,q3z,q15h,q15g,q15i,q15j,q15k,q15l,q15m,qoj,q4j,q4k,q4o,q4p,q4q,q4r,q4s,q4t,q4u,q4v,q4l,q4m,q4n,q3i,q41,q15p,q15o,q15u,q15t,q15v,q15w,q15x,q15y,q15z,q160,q161,q162,q15q,q15r,q15s,qoi,q4i,q3h,q40,q15n,e0,e1,w1,show ¬ ((m+1:Nat):Int)>100 by omega,show ¬ (d:Int)>8 by omega,decide_false,x19q,x20q,x1q,x21q,hi,ht,hb1,he,hb2,x0q]
 rfl
variable {nm tx:BA} (hno:q10z 2 (ByteArray.mk (List.toArray [105,102])) b a c o s false ((m+1:Nat):Int) (d:Int) 0=some (false,(false,(b,(a,(c,(o,(s,(false,(((m+1:Nat):Int),((d:Int),0)))))))))))
include hno
theorem qyh (hi:q10z 2 (ByteArray.mk (List.toArray [115,101,116])) b a c o s false ((m+1:Nat):Int) (d:Int) 0=some (true,(true,(b,(a1,(c1,(o1,(s1,(bd1,(r1,(d1,ts1)))))))))))
  (h1:q13d 2 b a1 c1 o1 s1 bd1 r1 d1 ts1=some (nm,(nm,(b,(a2,(c2,(o2,(s2,(bd2,(r2,(d2,ts2))))))))))) (h2:q13d 1 b a2 c2 o2 s2 bd2 r2 d2 ts2=some (tx,(tx,(b,(a3,(c3,(o3,(s3,(bd3,(r3,(d3,ts3))))))))))) (h3:q11z (ByteArray.mk (List.toArray [59])) b a3 c3 o3 s3 bd3 r3 d3 ts3=some ((),((),st))) :
  q12s b a c o s false (m:Int) (d:Int) 0=some (tupR (ruS nm tx),(tupR (ruS nm tx),st)):=by
 have e0:qcu.decL []=[]:=rfl
 have e1:qcw.decL []=[]:=rfl
 have w1:IntKind.i64.wrap ((m:Int)+1)=((m+1:Nat):Int):=q1et (n:=1000) (by omega) (by omega)
 refine q12u ?_
 simp only [q12y,gL,dL,wI,q85,qk3,x25q,x26q,x27q,qol,q4x,q3k,q43,q164,qoo,q52,q3n,q46,q16b,qom,q4y,q4z,q3l,q44,q166,q165,q167,qon,q50,q51,q3m,q45,q169,q168,q16a,qoh,q4c,q4d,q4e,q4f,q4g,q4h,q3g,q3z,q15h,q15g,q15i,q15j,q15k,q15l,q15m,qoj,q4j,q4k,q4o,q4p,q4q,q4r,q4s,q4t,q4u,q4v,q4l,q4m,q4n,q3i,q41,q15p,q15o,q15u,q15t,q15v,q15w,q15x,q15y,q15z,q160,q161,q162,q15q,q15r,q15s,qoi,q4i,q3h,q40,q15n,e0,e1,w1,show ¬ ((m+1:Nat):Int)>100 by omega,show ¬ (d:Int)>8 by omega,decide_false,x19q,x20q,x1q,x21q,hno,hi,h1,h2,h3,x0q]
 rfl
variable (hns:q10z 2 (ByteArray.mk (List.toArray [115,101,116])) b a c o s false ((m+1:Nat):Int) (d:Int) 0=some (false,(false,(b,(a,(c,(o,(s,(false,(((m+1:Nat):Int),((d:Int),0)))))))))))
include hns
theorem qyi (hi:q10z 2 (ByteArray.mk (List.toArray [115,116,111,112])) b a c o s false ((m+1:Nat):Int) (d:Int) 0=some (true,(true,(b,(a1,(c1,(o1,(s1,(bd1,(r1,(d1,ts1))))))))))) (h3:q11z (ByteArray.mk (List.toArray [59])) b a1 c1 o1 s1 bd1 r1 d1 ts1=some ((),((),st))) :
  q12s b a c o s false (m:Int) (d:Int) 0=some (tupR ruT,(tupR ruT,st)):=by
 have e0:qcu.decL []=[]:=rfl
 have e1:qcw.decL []=[]:=rfl
 have w1:IntKind.i64.wrap ((m:Int)+1)=((m+1:Nat):Int):=q1et (n:=1000) (by omega) (by omega)
 refine q12u ?_
 simp only [q12y,gL,dL,wI,q85,qk3,x25q,x26q,x27q,qol,q4x,q3k,q43,q164,qoo,q52,q3n,q46,q16b,qom,q4y,q4z,q3l,q44,q166,q165,q167,qon,q50,q51,q3m,q45,q169,q168,q16a,qoh,q4c,q4d,q4e,q4f,q4g,q4h,q3g,q3z,q15h,q15g,q15i,q15j,q15k,q15l,q15m,qoj,q4j,q4k,q4o,q4p,q4q,q4r,q4s,q4t,q4u,q4v,q4l,q4m,q4n,q3i,q41,q15p,q15o,q15u,q15t,q15v,q15w,q15x,q15y,q15z,q160,q161,q162,q15q,q15r,q15s,qoi,q4i,q3h,q40,q15n,e0,e1,w1,show ¬ ((m+1:Nat):Int)>100 by omega,show ¬ (d:Int)>8 by omega,decide_false,x19q,x20q,x1q,x21q,hno,hns,hi,h3,x0q]
 rfl
theorem qyd {ru:S38} (hi:q10z 2 (ByteArray.mk (List.toArray [115,116,111,112])) b a c o s false ((m+1:Nat):Int) (d:Int) 0=some (false,(false,(b,(a,(c,(o,(s,(false,(((m+1:Nat):Int),((d:Int),0)))))))))))
  (h3:qz9 b a c o s false ((m+1:Nat):Int) (d:Int) 0=some (tupR ru,(tupR ru,st))) :
  q12s b a c o s false (m:Int) (d:Int) 0=some (tupR ru,(tupR ru,st)):=by
 have w1:IntKind.i64.wrap ((m:Int)+1)=((m+1:Nat):Int):=q1et (n:=1000) (by omega) (by omega)
 refine q12u ?_
 simp only [q12y,gL,dL,wI,q85,qk3,x25q,x26q,x27q,qol,q4x,q3k,q43,q164,qoo,q52,q3n,q46,q16b,qom,q4y,q4z,q3l,q44,q166,q165,q167,qon,q50,q51,q3m,q45,q169,q168,q16a,qoh,q4c,q4d,q4e,q4f,q4g,q4h,q3g,q3z,q15h,q15g,q15i,q15j,q15k,q15l,q15m,qoj,q4j,q4k,q4o,q4p,q4q,q4r,q4s,q4t,q4u,q4v,q4l,q4m,q4n,q3i,q41,q15p,q15o,q15u,q15t,q15v,q15w,q15x,q15y,q15z,q160,q161,q162,q15q,q15r,q15s,qoi,q4i,q3h,q40,q15n,w1,show ¬ ((m+1:Nat):Int)>100 by omega,show ¬ (d:Int)>8 by omega,decide_false,x19q,x20q,x1q,x21q,hno,hns,hi,h3,x0q]
end
theorem qye (b:BA) (a c o:Int) (s:BA) (m d:Nat) (hm:m<=1000) (h:100<m+1∨8<d):q12s b a c o s false (m:Int) (d:Int) 0=some (tupR ru0,(tupR ru0,(b,(a,(c,(o,(s,(true,(((m+1:Nat):Int),((d:Int),0)))))))))):=by
 have e0:qcu.decL []=[]:=rfl
 have e1:qcw.decL []=[]:=rfl
 have w1:IntKind.i64.wrap ((m:Int)+1)=((m+1:Nat):Int):=q1et (n:=2000) (by omega) (by omega)
 refine q12u ?_
 by_cases h1:((m+1:Nat):Int)>100
 ·simp only [q12y,gL,dL,wI,q85,qk3,x25q,x26q,x27q,qol,q4x,q3k,q43,q164,qoo,q52,q3n,q46,q16b,qom,q4y,q4z,q3l,q44,q166,q165,q167,qon,q50,q51,q3m,q45,q169,q168,q16a,qoh,q4c,q4d,q4e,q4f,q4g,q4h,q3g,q3z,q15h,q15g,q15i,q15j,q15k,q15l,q15m,qoj,q4j,q4k,q4o,q4p,q4q,q4r,q4s,q4t,q4u,q4v,q4l,q4m,q4n,q3i,q41,q15p,q15o,q15u,q15t,q15v,q15w,q15x,q15y,q15z,q160,q161,q162,q15q,q15r,q15s,qoi,q4i,q3h,q40,q15n,e0,e1,w1,h1,decide_true,show (true==false)=false from rfl,x1q,x21q]
  rfl
 ·simp only [q12y,gL,dL,wI,q85,qk3,x25q,x26q,x27q,qol,q4x,q3k,q43,q164,qoo,q52,q3n,q46,q16b,qom,q4y,q4z,q3l,q44,q166,q165,q167,qon,q50,q51,q3m,q45,q169,q168,q16a,qoh,q4c,q4d,q4e,q4f,q4g,q4h,q3g,q3z,q15h,q15g,q15i,q15j,q15k,q15l,q15m,qoj,q4j,q4k,q4o,q4p,q4q,q4r,q4s,q4t,q4u,q4v,q4l,q4m,q4n,q3i,q41,q15p,q15o,q15u,q15t,q15v,q15w,q15x,q15y,q15z,q160,q161,q162,q15q,q15r,q15s,qoi,q4i,q3h,q40,q15n,e0,e1,w1,h1,decide_false,x19q,x20q,show (d:Int)>8 by omega,decide_true]
  rfl
section
variable (b:BA) (hb:b.size<=4000)
def PLO (d:Nat) (W:List S38) (sp:Nat⊕(List S38×List Tok×Nat)) (l:List S38) (st:Pst):Prop:=match sp with
 |.inr y=>l=W++y.1/\y.2.2<=100/\∃ n z R,y.2.1=z::R/\At b n z R/\st=stP b n z false ((y.2.2:Nat):Int) (d:Int) 0
 |.inl o=>∃ n z r,z.o=o/\st=stP b n z true r (d:Int) 0
def PR (f:Nat):Prop:=∀ (d m n:Nat) (x:Tok) (R:List Tok),At b n x R->d<=9->m<=100->2*(x::R).length+3<=f->(x::R).length<=4001 ->
 ∃ t st,q12s b ((n:Nat):Int) ((x.k:Nat):Int) ((x.o:Nat):Int) (baL x.s) false (m:Int) (d:Int) 0=some (tupR t,(tupR t,st))/\PRO b d (sRule f d m (x::R)) t st
def PB (f:Nat):Prop:=∀ (d m n:Nat) (x:Tok) (R:List Tok),At b n x R->d<=8->m<=100->2*(x::R).length+3<=f->(x::R).length<=4001 ->
 ∃ l st,q10s b ((n:Nat):Int) ((x.k:Nat):Int) ((x.o:Nat):Int) (baL x.s) false (m:Int) (d:Int) 0=some (l,(l,st))/\PLO b d [] (sBlock f (d+1) m (x::R)) l st
def PS (f:Nat):Prop:=∀ (d m n:Nat) (x:Tok) (R:List Tok) (W:List S38),At b n x R->d<=9->m<=100->2*(x::R).length+4<=f->W.length+(x::R).length<=4001 ->
 ∃ l st,q132 W.length b ((n:Nat):Int) ((x.k:Nat):Int) ((x.o:Nat):Int) (baL x.s) false (m:Int) (d:Int) 0 W=some (((),(l.length,false)),(st,l))/\PLO b d W (sRules f d m (x::R)) l st
include hb
theorem q1d6 (f n:Nat) (x:Tok) (R:List Tok) (r dd:Int) (hA:At b n x R) (hf:2*(x::R).length+1<=f) (hl:(x::R).length<=4001) :
  ∃ t st,q13r b ((n:Nat):Int) ((x.k:Nat):Int) ((x.o:Nat):Int) (baL x.s) false r dd 0=some (tup t,(tup t,st))/\PO b r dd 0 (sTest f 1 (x::R)) t st:=(pt_all b hb f).1 0 n x R r dd hA (by omega) hf hl
theorem qv1 {f:Nat} (ihs:PS b f):PB b (f+1):=by
 intro d m n x R hA hd hm hf hl
 simp only [x9q] at hf hl
 simp only [sBlock,sNeed]
 cases hc:isT 4 [123] (x::R) with
 |false =>
  have h1:=qt4 (b:=b) (n:=n) hc ((m:Nat):Int) (d:Int) 0
  have h2:=q15a (qph b ((n:Nat):Int) ((x.k:Nat):Int) ((x.o:Nat):Int) (baL x.s) ((m:Nat):Int) ((d+1:Nat):Int) 0 [])
  exact ⟨[],_,q7t (by omega) h1 h2 (qt3 _ _ _ _ _ _ _ _ _),n,x,_,rfl,rfl⟩
 |true =>
  obtain ⟨n1,y,R',rfl,g2,g3⟩:=qt5 hb hA hc ((m:Nat):Int) (d:Int) 0
  simp only [x9q] at hf hl
  obtain ⟨l,st,q1,q2⟩:=ihs (d+1) m n1 y R' [] g2 (by omega) hm (by simp only [x9q];omega) (by simp only [x9q,x8q];omega)
  have q1:=q15a q1
  dsimp only [thn]
  simp only [x20q,List.tail_cons]
  cases hs:sRules f (d+1) m (y::R') with
  |inl o =>
   rw [hs] at q2
   obtain ⟨n2,z,r2,z1,rfl⟩:=q2
   exact ⟨l,_,q7t (by omega) g3 q1 (qt3 _ _ _ _ _ _ _ _ _),n2,z,r2,z1,rfl⟩
  |inr w =>
   rw [hs] at q2
   obtain ⟨rfl,q3,n2,z,R2,j1,j2,rfl⟩:=q2
   dsimp only
   rw [j1]
   cases hc2:isT 4 [125] (z::R2) with
   |false =>
    have h3:=qt4 (b:=b) (n:=n2) hc2 ((w.2.2:Nat):Int) ((d+1:Nat):Int) 0
    exact ⟨_,_,q7t (by omega) g3 q1 h3,n2,z,_,rfl,rfl⟩
   |true =>
    obtain ⟨n3,z3,R3,rfl,k2,k3⟩:=qt5 hb j2 hc2 ((w.2.2:Nat):Int) ((d+1:Nat):Int) 0
    exact ⟨_,_,q7t (by omega) g3 q1 k3,rfl,q3,n3,z3,R3,rfl,k2,rfl⟩
theorem qwv {f:Nat} (ihb:PB b f):PR b (f+1):=by
 intro d m n x R hA hd hm hf hl
 simp only [x9q] at hf hl
 simp only [sRule]
 by_cases hdeep:100<m+1∨8<d
 ·rw [if_pos (by omega)]
  exact ⟨ru0,_,qye b _ _ _ _ m d (by omega) hdeep,n,x,_,rfl,rfl⟩
 have hm1:m+1<=100:=by omega
 have hd8:d<=8:=by omega
 have nos:∀ w:List UInt8,¬ (x.k=2/\x.s=w)->q10z 2 (baL w) b ((n:Nat):Int) ((x.k:Nat):Int) ((x.o:Nat):Int) (baL x.s) false ((m+1:Nat):Int) (d:Int) 0=some (false,(false,(b,(((n:Nat):Int),(((x.k:Nat):Int),(((x.o:Nat):Int),(baL x.s,(false,(((m+1:Nat):Int),((d:Int),0)))))))))):=λw hw =>
  is_no (k:=2) (R:=R) (by simp only [isT,Bool.and_eq_false_iff,beq_eq_false_iff_ne];by_cases e:x.k=2;exact .inr (λe2=>hw ⟨e,e2⟩);exact .inl e) _ _ _
 by_cases hx:x.k=2
 case neg =>
  rw [if_pos (by omega)]
  exact ⟨_,_,qyd hm1 hd8 (nos wIf (λe=>hx e.1)) (nos wSet (λe=>hx e.1)) (nos wStop (λe=>hx e.1)) (qv b (R:=R) (λe=>hx e.1)),n,x,_,rfl,rfl⟩
 rw [if_neg (by omega)]
 by_cases h1:x.s=wIf
 ·rw [if_pos h1]
  obtain ⟨n1,y,R',rfl,g2,g3⟩:=qov hb hA (k:=2) rfl (w:=wIf) (by simp [isT,hx,h1]) ((m+1:Nat):Int) (d:Int) 0
  simp only [x9q] at hf hl
  obtain ⟨t,st,q1,q2⟩:=q1d6 b hb f n1 y R' ((m+1:Nat):Int) (d:Int) g2 (by simp only [x9q];omega) (by simp only [x9q];omega)
  cases hs:sTest f 1 (y::R') with
  |inl o =>
   rw [hs] at q2
   obtain ⟨n2,z,z1,rfl⟩:=q2
   exact ⟨_,_,qyf hm1 hd8 g3 q1 (q7s _ _ _ _ _ _ _ d (by omega)) (qou _ _ _ _ _ _ _ _ _ _),n2,z,_,z1,rfl⟩
  |inr w =>
   have hlen:=qqf hs
   rw [hs] at q2
   obtain ⟨rfl,n2,z,R2,j1,j2,rfl⟩:=q2
   dsimp only [thn]
   rw [j1] at hlen ⊢
   simp only [x9q] at hlen
   obtain ⟨l,st2,k1,k2⟩:=ihb d (m+1) n2 z R2 j2 hd8 hm1 (by simp only [x9q];omega) (by simp only [x9q];omega)
   cases hs2:sBlock f (d+1) (m+1) (z::R2) with
   |inl o =>
    rw [hs2] at k2
    obtain ⟨n3,z3,r3,z4,rfl⟩:=k2
    exact ⟨_,_,qyf hm1 hd8 g3 q1 k1 (qou _ _ _ _ _ _ _ _ _ _),n3,z3,_,z4,rfl⟩
   |inr v =>
    have hlen2:=qqd hs2
    rw [hs2] at k2
    obtain ⟨k3,k4,n3,z3,R3,u1,u2,rfl⟩:=k2
    have k3:l=v.1:=by simpa using k3
    subst k3
    dsimp only
    rw [u1] at hlen2 ⊢
    simp only [x9q] at hlen2
    cases hc:isT 2 wElse (z3::R3) with
    |false =>
     have h5:=is_no (b:=b) (n:=n3) hc ((v.2.2:Nat):Int) (d:Int) 0
     rw [if_neg (by simp)]
     exact ⟨_,_,qyf hm1 hd8 g3 q1 k1 h5,rfl,k4,n3,z3,R3,rfl,u2,rfl⟩
    |true =>
     obtain ⟨n4,z4,R4,rfl,p2,p3⟩:=qov hb u2 (k:=2) rfl hc ((v.2.2:Nat):Int) (d:Int) 0
     rw [if_pos rfl]
     simp only [x9q] at hlen2
     obtain ⟨l2,st5,k5,k6⟩:=ihb d v.2.2 n4 z4 R4 p2 hd8 k4 (by simp only [x9q];omega) (by simp only [x9q];omega)
     simp only [List.tail_cons]
     cases hs3:sBlock f (d+1) v.2.2 (z4::R4) with
     |inl o =>
      rw [hs3] at k6
      obtain ⟨n5,z5,r5,z6,rfl⟩:=k6
      exact ⟨_,_,qyg hm1 hd8 g3 q1 k1 p3 k5,n5,z5,_,z6,rfl⟩
     |inr e =>
      rw [hs3] at k6
      obtain ⟨k7,k8,n5,z5,R5,e1,e2,rfl⟩:=k6
      have k7:l2=e.1:=by simpa using k7
      subst k7
      exact ⟨_,_,qyg hm1 hd8 g3 q1 k1 p3 k5,rfl,k8,n5,z5,R5,e1,e2,rfl⟩
 rw [if_neg h1]
 have i1:=nos wIf (λe=>h1 e.2)
 by_cases h2:x.s=wSet
 ·rw [if_pos h2]
  obtain ⟨n1,y,R',rfl,g2,g3⟩:=qov hb hA (k:=2) rfl (w:=wSet) (by simp [isT,hx,h2]) ((m+1:Nat):Int) (d:Int) 0
  simp only [sTake]
  by_cases hy:y.k=2
  ·obtain ⟨n2,z,R2,rfl,q2,q3⟩:=q1d1 hb g2 (k:=2) rfl hy ((m+1:Nat):Int) (d:Int) 0
   rw [if_pos hy]
   dsimp only [thn]
   by_cases hz:z.k=1
   ·obtain ⟨n3,z3,R3,rfl,p2,p3⟩:=q1d1 hb q2 (k:=1) rfl hz ((m+1:Nat):Int) (d:Int) 0
    rw [if_pos hz]
    dsimp only
    obtain ⟨st,k1,k2⟩:=qs b hb hm1 p2 rfl (rul 3 t0 [] [] 0 y.s z.s 0) (λst=>q12s b ((n:Nat):Int) ((x.k:Nat):Int) ((x.o:Nat):Int) (baL x.s) false (m:Int) (d:Int) 0=some (tupR (ruS (baL y.s) (baL z.s)),(tupR (ruS (baL y.s) (baL z.s)),st))) (λst3 q4=>qyh hm1 hd8 i1 g3 q3 p3 q4)
    exact ⟨_,st,k1,k2⟩
   ·have p3:=q1cz (b:=b) (n:=n2) (k:=1) hz ((m+1:Nat):Int) (d:Int) 0
    rw [if_neg hz]
    exact ⟨_,_,qyh hm1 hd8 i1 g3 q3 p3 (qt3 _ _ _ _ _ _ _ _ _),n2,z,_,rfl,rfl⟩
  ·have q3:=q1cz (b:=b) (n:=n1) (k:=2) hy ((m+1:Nat):Int) (d:Int) 0
   rw [if_neg hy]
   exact ⟨_,_,qyh hm1 hd8 i1 g3 q3 (q1cx _ _ _ _ _ _ _ _ _) (qt3 _ _ _ _ _ _ _ _ _),n1,y,_,rfl,rfl⟩
 rw [if_neg h2]
 have i2:=nos wSet (λe=>h2 e.2)
 by_cases h3:x.s=wStop
 ·rw [if_pos h3]
  obtain ⟨n1,y,R',rfl,g2,g3⟩:=qov hb hA (k:=2) rfl (w:=wStop) (by simp [isT,hx,h3]) ((m+1:Nat):Int) (d:Int) 0
  obtain ⟨st,k1,k2⟩:=qs b hb hm1 g2 rfl (rul 4 t0 [] [] 0 [] [] 0) (λst=>q12s b ((n:Nat):Int) ((x.k:Nat):Int) ((x.o:Nat):Int) (baL x.s) false (m:Int) (d:Int) 0=some (tupR ruT,(tupR ruT,st))) (λst3 q4=>qyi hm1 hd8 i1 i2 g3 q4)
  exact ⟨_,st,k1,k2⟩
 rw [if_neg h3]
 have i3:=nos wStop (λe=>h3 e.2)
 obtain ⟨t,st,k1,k2⟩:=act_s b hb hA hm1 hx
 exact ⟨t,st,qyd hm1 hd8 i1 i2 i3 k1,k2⟩
omit hb in
theorem qx3 {f:Nat} (ih:PR b f) (ihs:PS b f):PS b (f+1):=by
 intro d m n x R W hA hd hm hf hl
 simp only [x9q] at hf hl
 simp only [sRules]
 have hstop:stopB x=true->q132 W.length b ((n:Nat):Int) ((x.k:Nat):Int) ((x.o:Nat):Int) (baL x.s) false (m:Int) (d:Int) 0 W=some (((),(W.length,false)),((b,(((n:Nat):Int),(((x.k:Nat):Int),(((x.o:Nat):Int),(baL x.s,(false,((m:Int),((d:Int),0)))))))),W)):=λh=>by
  refine q134 ?_
  simp only [stopB,Bool.or_eq_true,beq_iff_eq,x6q] at h
  by_cases h0:x.k=0
  ·have e0:((((x.k:Nat):Int) != 0)==true)=false:=by simp [h0]
   simp only [q138,gL,dL,aL,dQ,q85,qk3,x25q,x26q,x27q,qol,q4x,q3k,q43,q164,qoo,q52,q3n,q46,q16b,qom,q4y,q4z,q3l,q44,q166,q165,q167,qon,q50,q51,q3m,q45,q169,q168,q16a,qoh,q4c,q4d,q4e,q4f,q4g,q4h,q3g,q3z,q15h,q15g,q15i,q15j,q15k,q15l,q15m,qoj,q4j,q4k,q4o,q4p,q4q,q4r,q4s,q4t,q4u,q4v,q4l,q4m,q4n,q3i,q41,q15p,q15o,q15u,q15t,q15v,q15w,q15x,q15y,q15z,q160,q161,q162,q15q,q15r,q15s,qoi,q4i,q3h,q40,q15n,show ((!false)==true)=true from rfl,e0,x1q,x21q,x20q]
  ·have e0:((((x.k:Nat):Int) != 0)==true)=true:=by simp;omega
   obtain ⟨h4,hs⟩:=h.resolve_left h0
   have e4:((((x.k:Nat):Int) != 4)==false)=true:=by simp [h4]
   have es:(ByteArray.toList (baL x.s)==ByteArray.toList (ByteArray.mk (List.toArray [125])))=true:=by
    have:=beq_ba x.s [125]
    rw [hs] at this
    rw [hs]
    exact this.trans (by decide)
   simp only [q138,gL,dL,aL,dQ,q85,qk3,x25q,x26q,x27q,qol,q4x,q3k,q43,q164,qoo,q52,q3n,q46,q16b,qom,q4y,q4z,q3l,q44,q166,q165,q167,qon,q50,q51,q3m,q45,q169,q168,q16a,qoh,q4c,q4d,q4e,q4f,q4g,q4h,q3g,q3z,q15h,q15g,q15i,q15j,q15k,q15l,q15m,qoj,q4j,q4k,q4o,q4p,q4q,q4r,q4s,q4t,q4u,q4v,q4l,q4m,q4n,q3i,q41,q15p,q15o,q15u,q15t,q15v,q15w,q15x,q15y,q15z,q160,q161,q162,q15q,q15r,q15s,qoi,q4i,q3h,q40,q15n,show ((!false)==true)=true from rfl,e0,e4,es,x15q,x1q,x21q,x20q]
 cases hst:stopB x with
 |true =>
  rw [if_pos rfl]
  exact ⟨W,_,hstop hst,by simp,hm,n,x,R,rfl,hA,rfl⟩
 |false =>
  rw [if_neg (by simp)]
  obtain ⟨t,st,q1,q2⟩:=ih d m n x R hA hd hm (by simp only [x9q];omega) (by simp only [x9q];omega)
  have e1:decide ((W.length+1+(W.length+1) / 4+192)*184<=281474976710656)=true:=by simp;omega
  have e2:decide (W.length+1<=9223372036854775807)=true:=by simp;omega
  have eL:(W++[t]).length=W.length+1:=by simp
  have go:∀ z,q132 (W.length+1) st.1 st.2.1 st.2.2.1 st.2.2.2.1 st.2.2.2.2.1 st.2.2.2.2.2.1 st.2.2.2.2.2.2.1 st.2.2.2.2.2.2.2.1 st.2.2.2.2.2.2.2.2 (W++[t])=some z->q132 W.length b ((n:Nat):Int) ((x.k:Nat):Int) ((x.o:Nat):Int) (baL x.s) false (m:Int) (d:Int) 0 W=some z:=λz hz=>by
   refine q134 ?_
   simp only [stopB,Bool.or_eq_false_iff,beq_eq_false_iff_ne,ne_eq,Bool.and_eq_false_iff] at hst
   have e0:((((x.k:Nat):Int) != 0)==true)=true:=by simp;omega
   by_cases h4:x.k=4
   ·have e4:((((x.k:Nat):Int) != 4)==false)=true:=by simp [h4]
    have es:(ByteArray.toList (baL x.s)==ByteArray.toList (ByteArray.mk (List.toArray [125])))=false:=by
     have:=beq_ba x.s [125]
     refine this.trans ?_
     have:=hst.2.resolve_left (by simp [h4])
     simpa using this
    simp only [q138,gL,dL,aL,dQ,q85,qk3,x25q,x26q,x27q,qol,q4x,q3k,q43,q164,qoo,q52,q3n,q46,q16b,qom,q4y,q4z,q3l,q44,q166,q165,q167,qon,q50,q51,q3m,q45,q169,q168,q16a,qoh,q4c,q4d,q4e,q4f,q4g,q4h,q3g,q3z,q15h,q15g,q15i,q15j,q15k,q15l,q15m,qoj,q4j,q4k,q4o,q4p,q4q,q4r,q4s,q4t,q4u,q4v,q4l,q4m,q4n,q3i,q41,q15p,q15o,q15u,q15t,q15v,q15w,q15x,q15y,q15z,q160,q161,q162,q15q,q15r,q15s,qoi,q4i,q3h,q40,q15n,apd_R,show ((!false)==true)=true from rfl,e0,e4,es,x11q,x20q,q1,x0q,x9q,x8q,x13q,e1,e2,x17q,x23q,Bool.and_true,Bool.true_and,x19q,x4q,eta_R,hz]
   ·have e4:((((x.k:Nat):Int) != 4)==false)=false:=by simp;omega
    simp only [q138,gL,dL,aL,dQ,q85,qk3,x25q,x26q,x27q,qol,q4x,q3k,q43,q164,qoo,q52,q3n,q46,q16b,qom,q4y,q4z,q3l,q44,q166,q165,q167,qon,q50,q51,q3m,q45,q169,q168,q16a,qoh,q4c,q4d,q4e,q4f,q4g,q4h,q3g,q3z,q15h,q15g,q15i,q15j,q15k,q15l,q15m,qoj,q4j,q4k,q4o,q4p,q4q,q4r,q4s,q4t,q4u,q4v,q4l,q4m,q4n,q3i,q41,q15p,q15o,q15u,q15t,q15v,q15w,q15x,q15y,q15z,q160,q161,q162,q15q,q15r,q15s,qoi,q4i,q3h,q40,q15n,apd_R,show ((!false)==true)=true from rfl,e0,e4,x1q,x21q,x20q,q1,x0q,x9q,x8q,x13q,e1,e2,x17q,x23q,Bool.and_true,Bool.true_and,x19q,x4q,eta_R,hz]
  cases hs:sRule f d m (x::R) with
  |inl o =>
   rw [hs] at q2
   obtain ⟨n2,z,r2,z1,rfl⟩:=q2
   have hd3:=qph b ((n2:Nat):Int) ((z.k:Nat):Int) ((z.o:Nat):Int) (baL z.s) r2 (d:Int) 0 (W++[t])
   rw [eL] at hd3
   refine ⟨W++[t],stP b n2 z true r2 (d:Int) 0,go _ ?_,n2,z,r2,z1,rfl⟩
   rw [eL]
   exact hd3
  |inr w =>
   have hlen:=qqe hs
   rw [hs] at q2
   obtain ⟨rfl,q3,n2,z,R2,j1,j2,rfl⟩:=q2
   dsimp only [thn]
   rw [j1] at hlen ⊢
   simp only [x9q] at hlen
   obtain ⟨l,st2,k1,k2⟩:=ihs d w.2.2 n2 z R2 (W++[w.1]) j2 hd q3 (by simp only [x9q];omega) (by rw [eL];simp only [x9q];omega)
   rw [eL] at k1
   refine ⟨l,st2,go _ k1,?_⟩
   cases hs2:sRules f d w.2.2 (z::R2) with
   |inl o=>rw [hs2] at k2;exact k2
   |inr v =>
    rw [hs2] at k2
    obtain ⟨rfl,k3,k4⟩:=k2
    exact ⟨by simp,k3,k4⟩
theorem pr_all:∀ f,PR b f/\PB b f/\PS b f
 |0=>⟨λd m n x R _ _ _ h=>by omega,λd m n x R _ _ _ h=>by omega,λd m n x R W _ _ _ h=>by omega⟩
 |f+1=>⟨qwv b hb (pr_all f).2.1,qv1 b hb (pr_all f).2.2,qx3 b (pr_all f).1 (pr_all f).2.2⟩
omit hb
theorem qux (b:BA) (hs:b.size<=4000->∀ l,sScript (bl b)=.inr l->qyw l=some (scriptF l)):qyn b=some ((sParse (bl b)).1,(sParse (bl b)).2):=by
 have e1:qcw.decL []=[]:=rfl
 have hlen:(bl b).length=b.size:=by simp [bl]
 unfold sParse
 rw [hlen]
 by_cases h4:4000<b.size
 ·rw [if_pos h4]
  refine qym ?_
  simp only [qyo,gL,dL,q85,qk3,x25q,x26q,x27q,qol,q4x,q3k,q43,q164,qoo,q52,q3n,q46,q16b,qom,q4y,q4z,q3l,q44,q166,q165,q167,qon,q50,q51,q3m,q45,q169,q168,q16a,qoh,q4c,q4d,q4e,q4f,q4g,q4h,q3g,q3z,q15h,q15g,q15i,q15j,q15k,q15l,q15m,qoj,q4j,q4k,q4o,q4p,q4q,q4r,q4s,q4t,q4u,q4v,q4l,q4m,q4n,q3i,q41,q15p,q15o,q15u,q15t,q15v,q15w,q15x,q15y,q15z,q160,q161,q162,q15q,q15r,q15s,qoi,q4i,q3h,q40,q15n,show ((b.size:Nat):Int)>4000 by omega,decide_true,x20q,qgd,x0q,e1]
 rw [if_neg h4]
 have hb:b.size<=4000:=by omega
 obtain ⟨n,x,R,q1,q2,q3⟩:=q14 hb (Nat.zero_le b.size) 0 0 noTx false 0 1 0
 rw [x10q] at q1
 have q1:toksF (bl b) 0=x::R:=q1
 have q3:q100 b 0 0 0 noTx false 0 1 0=some ((),((),(b,(((n:Nat):Int),(((x.k:Nat):Int),(((x.o:Nat):Int),(baL x.s,(false,(0,(1,0)))))))))):=q3
 have hl:=q1dg ((bl b).length+1) (bl b) 0
 have hl:(toksF (bl b) 0).length<=(bl b).length+1:=hl
 rw [q1] at hl
 simp only [x9q] at hl
 obtain ⟨l,st,k1,k2⟩:=(pr_all b hb (fuel (bl b))).2.2 1 0 n x R [] q2 (by omega) (by omega) (by unfold fuel;simp only [x9q];omega) (by simp only [x9q,x8q];omega)
 have k1:=q15a k1
 have k1:q12z b ((n:Nat):Int) ((x.k:Nat):Int) ((x.o:Nat):Int) (baL x.s) false 0 1 0=some (l,(l,st)):=k1
 have sc:sScript (bl b)=thn (sRules (fuel (bl b)) 1 0 (x::R)) λy=>match y.2.1 with|x::_=>if x.k=0 then .inr y.1 else .inl x.o|[]=>.inl 0:=by
  unfold sScript
  rw [←q1];rfl
 have hsz:¬ ((b.size:Nat):Int)>4000:=by omega
 cases hr:sRules (fuel (bl b)) 1 0 (x::R) with
 |inl o =>
  rw [hr] at k2 sc
  obtain ⟨n2,z,r2,z1,rfl⟩:=k2
  have sc:sScript (bl b)=.inl o:=sc
  rw [sc]
  refine qym ?_
  simp only [qyo,gL,dL,q85,qk3,x25q,x26q,x27q,qol,q4x,q3k,q43,q164,qoo,q52,q3n,q46,q16b,qom,q4y,q4z,q3l,q44,q166,q165,q167,qon,q50,q51,q3m,q45,q169,q168,q16a,qoh,q4c,q4d,q4e,q4f,q4g,q4h,q3g,q3z,q15h,q15g,q15i,q15j,q15k,q15l,q15m,qoj,q4j,q4k,q4o,q4p,q4q,q4r,q4s,q4t,q4u,q4v,q4l,q4m,q4n,q3i,q41,q15p,q15o,q15u,q15t,q15v,q15w,q15x,q15y,q15z,q160,q161,q162,q15q,q15r,q15s,qoi,q4i,q3h,q40,q15n,hsz,decide_false,x1q,x21q,q3,k1,qgd,x0q,e1,show (true==false)=false from rfl,z1]
 |inr y =>
  rw [hr] at k2 sc
  obtain ⟨rfl,_,n2,z,R2,z1,z2,rfl⟩:=k2
  simp only [thn,z1] at sc
  by_cases hz:z.k=0
  ·rw [if_pos hz] at sc
   have hv:=hs hb _ sc
   have e0:(((z.k:Nat):Int) != 0)=false:=by simp [hz]
   rw [sc]
   simp only [List.nil_append] at *
   by_cases hf:(scriptF y.1).1=0
   ·have ef:((scriptF y.1).1 != 0)=false:=by simp [hf]
    refine qym ?_
    simp only [qyo,gL,dL,q85,qk3,x25q,x26q,x27q,qol,q4x,q3k,q43,q164,qoo,q52,q3n,q46,q16b,qom,q4y,q4z,q3l,q44,q166,q165,q167,qon,q50,q51,q3m,q45,q169,q168,q16a,qoh,q4c,q4d,q4e,q4f,q4g,q4h,q3g,q3z,q15h,q15g,q15i,q15j,q15k,q15l,q15m,qoj,q4j,q4k,q4o,q4p,q4q,q4r,q4s,q4t,q4u,q4v,q4l,q4m,q4n,q3i,q41,q15p,q15o,q15u,q15t,q15v,q15w,q15x,q15y,q15z,q160,q161,q162,q15q,q15r,q15s,qoi,q4i,q3h,q40,q15n,hsz,decide_false,x1q,x21q,q3,k1,qgd,qgb,none_s,hv,ef,hf,e0,x0q,e1,x19q,x20q,ne_eq,not_true_eq_false,bne_self_eq_false,x1q,x21q]
   ·have ef:((scriptF y.1).1 != 0)=true:=by simp [hf]
    refine qym ?_
    simp only [qyo,gL,dL,q85,qk3,x25q,x26q,x27q,qol,q4x,q3k,q43,q164,qoo,q52,q3n,q46,q16b,qom,q4y,q4z,q3l,q44,q166,q165,q167,qon,q50,q51,q3m,q45,q169,q168,q16a,qoh,q4c,q4d,q4e,q4f,q4g,q4h,q3g,q3z,q15h,q15g,q15i,q15j,q15k,q15l,q15m,qoj,q4j,q4k,q4o,q4p,q4q,q4r,q4s,q4t,q4u,q4v,q4l,q4m,q4n,q3i,q41,q15p,q15o,q15u,q15t,q15v,q15w,q15x,q15y,q15z,q160,q161,q162,q15q,q15r,q15s,qoi,q4i,q3h,q40,q15n,hsz,decide_false,x1q,x21q,q3,k1,qgd,qgb,hv,ef,hf,e0,x0q,e1,x19q,x20q,ne_eq,not_false_eq_true]
  ·rw [if_neg hz] at sc
   have e0:(((z.k:Nat):Int) != 0)=true:=by simp;omega
   rw [sc]
   refine qym ?_
   simp only [qyo,gL,dL,q85,qk3,x25q,x26q,x27q,qol,q4x,q3k,q43,q164,qoo,q52,q3n,q46,q16b,qom,q4y,q4z,q3l,q44,q166,q165,q167,qon,q50,q51,q3m,q45,q169,q168,q16a,qoh,q4c,q4d,q4e,q4f,q4g,q4h,q3g,q3z,q15h,q15g,q15i,q15j,q15k,q15l,q15m,qoj,q4j,q4k,q4o,q4p,q4q,q4r,q4s,q4t,q4u,q4v,q4l,q4m,q4n,q3i,q41,q15p,q15o,q15u,q15t,q15v,q15w,q15x,q15y,q15z,q160,q161,q162,q15q,q15r,q15s,qoi,q4i,q3h,q40,q15n,hsz,decide_false,x1q,x21q,q3,k1,qgd,x0q,e1,x19q,x20q,e0]
end
end Go.Proofs.YtmlcmoaonaomfaaGreatDoor
