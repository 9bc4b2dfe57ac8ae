/- Functions of the program as plain functions: made by program from the machine. -/
import Derived.Test.YtognhcibcocbkaaGreatDoorZ22
namespace Go.Proofs.YtognhcibcocbkaaGreatDoor
open Go.RowKit
set_option maxRecDepth 100000
noncomputable section
abbrev z1q:=(vC (cInt .i64))
abbrev z1s:=(qb9 (vAgg (qb7 z1q (qb7 (vC (cSl q5t)) (qb7 (vC cStr) (qb7 z1q (qb7 (vC cStr) (qb9 z1q))))))))
def q18p:=z1s
abbrev z1t:=(cFstU (cPair (vC cStr) (qb8 (ρ:=B))))
def q18q:Cod (V×List B) ByteArray:=z1t
def q18t (q16u:Int) (q16x:L57) (q16v:BA) (q16w:Int) (q16y:BA) (t_N:Int):=fS Tryz.prog lv X0 87 q18p q18q (q16u,q16x,q16v,q16w,q16y,t_N)
def q18u (q16u:Int) (q16x:L57) (q16v:BA) (q16w:Int) (q16y:BA) (t_N:Int):Oq BA :=
 (Option.bind qto fun r0 =>
 (gdE (((p0 (IntKind.wrap .i64 (q16w - 1)))&&(decide ((IntKind.wrap .i64 (q16w - 1))<((3:Nat):Int))))&&(decide ((Int.toNat (IntKind.wrap .i64 (q16w - 1)))<(List.length [r0.1,r0.2.1,r0.2.2]))))<|
 (brE (decide (((((ByteArray.size (List.getD [r0.1,r0.2.1,r0.2.2] (Int.toNat (IntKind.wrap .i64 (q16w - 1))) ByteArray.empty))+(ByteArray.size (ByteArray.mk (List.toArray [(32:UInt8)])))):Nat):Int)>(Go.IntKind.max Go.IntKind.i64)))
 none
 ((quoP q16y).bind fun r1 =>
 (brE (decide (((((ByteArray.size ((List.getD [r0.1,r0.2.1,r0.2.2] (Int.toNat (IntKind.wrap .i64 (q16w - 1))) ByteArray.empty)++(ByteArray.mk (List.toArray [(32:UInt8)]))))+r1.size):Nat):Int)>(Go.IntKind.max Go.IntKind.i64)))
 none
 (some (((List.getD [r0.1,r0.2.1,r0.2.2] (Int.toNat (IntKind.wrap .i64 (q16w - 1))) ByteArray.empty)++(ByteArray.mk (List.toArray [(32:UInt8)])))++r1)))))))
theorem q18s {q16u q16x q16v q16w q16y t_N r} (h:q18u q16u q16x q16v q16w q16y t_N=some r):q18t q16u q16x q16v q16w q16y t_N=some r :=
 q75 (es:=tabj) (hs:=q9f) [] Tryz.func87 rfl (by kernel_rfl) rfl (by kernel_rfl) (by kernel_rfl) trivial trivial (by kernel_rfl) h
def q18r:=entS Tryz.prog lv X0 87 [] q18p q18q (fun x=>q18t x.1 x.2.1 x.2.2.1 x.2.2.2.1 x.2.2.2.2.1 x.2.2.2.2.2) (fun _ _ h=>q74 h)
def q1aj:=q18r::tabj
def q19z:=z1s
def q1a0:Cod (V×List B) ByteArray:=z1t
def q1a3 (q16u:Int) (q16x:L57) (q16v:BA) (q16w:Int) (q16y:BA) (t_N:Int):=fS Tryz.prog lv X0 62 q19z q1a0 (q16u,q16x,q16v,q16w,q16y,t_N)
def q1a1:=entS Tryz.prog lv X0 62 [] q19z q1a0 (fun x=>q1a3 x.1 x.2.1 x.2.2.1 x.2.2.2.1 x.2.2.2.2.1 x.2.2.2.2.2) (fun _ _ h=>q74 h)
def q1am:=q1a1::q1aj
def q17j:=(qb9 (vEptr (qb7 (cInt .i64) (qb7 (cSl q5t) (qb7 cStr (qb7 (cInt .i64) (qb7 cStr (qb9 (cInt .i64))))))) 0))
def q17s:=sLS [2,6,7,8] (qb7 (vRow 0) (qb7 (vC (cSl q5t)) (qb7 z1q (qb9 z1q)))) (qb9 (qdm (bRow q5v))) [false] [] (by decide) (fun _=>rfl)
def q17r:=sLS [2,6,7,8,9] (qb7 (vRow 0) (qb7 (vC (cSl q5t)) (qb7 z1q (qb7 z1q (qb9 (vC cBool)))))) (qb9 (qdm (bRow q5v))) [false] [] (by decide) (fun _=>rfl)
def q17q:=oAt 2 q17r
def q17n (out:Nat) (t6:L57) (t7 t8:Int) (b0:LB):=lS Tryz.prog lv X0 85 22 (q8x (cdF Tryz.f85) 3) q17s q17q ((out,t6,t7,t8),b0)
abbrev z10 (t6:L57) (t8:Int):=(List.getD (EC.encL q5t t6) (Int.toNat t8) [])
def q17t (out:Nat) (t6:L57) (t7 t8:Int) (b0:LB):Oq ((Nat×L57×Int×Int×Bool)×LB) :=
 (brE (decide (t8<t7))
 (gdE (p0 t8)<|
 (gdE (eC q5t t6 t8 [(K1.int Go.IntKind.i64),K1.sl,K1.str,(K1.int Go.IntKind.i64),K1.str,(K1.int Go.IntKind.i64)])<|
 (gdE (EC.isL q5t (slOf (List.getD (z10 t6 t8) 1 C.ne)))<|
 ((q1a3 (qa0 (List.getD (z10 t6 t8) 0 C.ne)) (uL q5t (List.getD (z10 t6 t8) 1 C.ne)) (q135 (List.getD (z10 t6 t8) 2 C.ne)) (qa0 (List.getD (z10 t6 t8) 3 C.ne)) (q135 (List.getD (z10 t6 t8) 4 C.ne)) (qa0 (List.getD (z10 t6 t8) 5 C.ne))).bind fun r0 =>
 (gdE ((((aL [[(C.str r0)]] 1)&&(aL (EC.encL q5v b0) 1))&&(dQ (out+(List.length [[(C.str r0)]])) 16))&&(dM (out+(List.length [[(C.str r0)]]))))<|
 (gL q5t t6<|
 (gdE (EC.isL q5v ((EC.encL q5v b0)++[[(C.str r0)]]))<|
 (q17n (out+(List.length [[(C.str r0)]])) (dL q5t t6) t7 (wI t8) (EC.decL q5v ((EC.encL q5v b0)++[[(C.str r0)]]))))))))))
 (gL q5t t6<|
 (gL q5v b0<|
 (some ((out,((dL q5t t6),(t7,(t8,false)))),(dL q5v b0))))))
theorem q17p {out t6 t7 t8 b0 r} (h:q17t out t6 t7 t8 b0=some r):q17n out t6 t7 t8 b0=some r :=
 qbb (es:=q1am) (hs:=q9f) [] (by kernel_rfl) trivial trivial (by kernel_rfl) h
def q17o:=qby Tryz.prog lv X0 3 (q8x (cdF Tryz.f85) 3) q17s q17q (fun x=>q17n x.1.1 x.1.2.1 x.1.2.2.1 x.1.2.2.2 x.2) (fun _ _ h=>qba h)
def q17k:Cod (V×List B) ByteArray:=z1t
def q17u (c0_0:Int) (c0_1:L57) (c0_2:BA) (c0_3:Int) (c0_4:BA) (c0_5:Int):=fS Tryz.prog lv X0 85 q17j q17k (c0_0,c0_1,c0_2,c0_3,c0_4,c0_5)
def q17v (c0_0:Int) (c0_1:L57) (c0_2:BA) (c0_3:Int) (c0_4:BA) (c0_5:Int):Oq BA :=
 (gL q5t c0_1<|
 ((q17n 0 (dL q5t c0_1) (lN q5t c0_1:Int) 0 (EC.decL q5v [])).bind fun r0 =>
 (gL q5v r0.2<|
 ((joinP (dL q5v r0.2) (ByteArray.mk (List.toArray [(44:UInt8),(32:UInt8)]))).bind fun r1 =>
 (brE (decide (((((ByteArray.size (ByteArray.mk (List.toArray [(40:UInt8)])))+r1.size):Nat):Int)>(Go.IntKind.max Go.IntKind.i64)))
 none
 (brE (decide (((((ByteArray.size ((ByteArray.mk (List.toArray [(40:UInt8)]))++r1))+(ByteArray.size (ByteArray.mk (List.toArray [(41:UInt8)])))):Nat):Int)>(Go.IntKind.max Go.IntKind.i64)))
 none
 (some (((ByteArray.mk (List.toArray [(40:UInt8)]))++r1)++(ByteArray.mk (List.toArray [(41:UInt8)]))))))))))
theorem q17m {c0_0 c0_1 c0_2 c0_3 c0_4 c0_5 r} (h:q17v c0_0 c0_1 c0_2 c0_3 c0_4 c0_5=some r):q17u c0_0 c0_1 c0_2 c0_3 c0_4 c0_5=some r :=
 q75 (es:=q1am) (hs:=q9f) [q17o] Tryz.func85 rfl (by kernel_rfl) rfl (by kernel_rfl) (by kernel_rfl) ⟨⟨_,rfl,rfl⟩,trivial⟩ trivial (by kernel_rfl) h
def q17l:=entS Tryz.prog lv X0 85 [] q17j q17k (fun x=>q17u x.1 x.2.1 x.2.2.1 x.2.2.2.1 x.2.2.2.2.1 x.2.2.2.2.2) (fun _ _ h=>q74 h)
def q1ah:=q17l::q1am
abbrev z11 (q16x:L57):=(List.getD (EC.encL q5t q16x) (Int.toNat 0) [])
def q1a4 (q16u:Int) (q16x:L57) (q16v:BA) (q16w:Int) (q16y:BA) (t_N:Int):Oq BA :=
 (brE (q16u==2)
 (gdE (eC q5t q16x 0 [(K1.int Go.IntKind.i64),K1.sl,K1.str,(K1.int Go.IntKind.i64),K1.str,(K1.int Go.IntKind.i64)])<|
 (gdE (EC.isL q5t (slOf (List.getD (z11 q16x) 1 C.ne)))<|
 ((q1a3 (qa0 (List.getD (z11 q16x) 0 C.ne)) (uL q5t (List.getD (z11 q16x) 1 C.ne)) (q135 (List.getD (z11 q16x) 2 C.ne)) (qa0 (List.getD (z11 q16x) 3 C.ne)) (q135 (List.getD (z11 q16x) 4 C.ne)) (qa0 (List.getD (z11 q16x) 5 C.ne))).bind fun r0 =>
 (brE (decide (((((ByteArray.size (ByteArray.mk (List.toArray [(110:UInt8),(111:UInt8),(116:UInt8),(32:UInt8)])))+r0.size):Nat):Int)>(Go.IntKind.max Go.IntKind.i64)))
 none
 (some ((ByteArray.mk (List.toArray [(110:UInt8),(111:UInt8),(116:UInt8),(32:UInt8)]))++r0))))))
 (brE (q16u==3)
 (gL q5t q16x<|
 ((q17u q16u (dL q5t q16x) q16v q16w q16y t_N).bind fun r0 =>
 (brE (decide (((((ByteArray.size (ByteArray.mk (List.toArray [(97:UInt8),(108:UInt8),(108:UInt8),(32:UInt8)])))+r0.size):Nat):Int)>(Go.IntKind.max Go.IntKind.i64)))
 none
 (some ((ByteArray.mk (List.toArray [(97:UInt8),(108:UInt8),(108:UInt8),(32:UInt8)]))++r0)))))
 (brE (q16u==4)
 (gL q5t q16x<|
 ((q17u q16u (dL q5t q16x) q16v q16w q16y t_N).bind fun r0 =>
 (brE (decide (((((ByteArray.size (ByteArray.mk (List.toArray [(97:UInt8),(110:UInt8),(121:UInt8),(32:UInt8)])))+r0.size):Nat):Int)>(Go.IntKind.max Go.IntKind.i64)))
 none
 (some ((ByteArray.mk (List.toArray [(97:UInt8),(110:UInt8),(121:UInt8),(32:UInt8)]))++r0)))))
 (brE (q16u==5)
 ((quoP q16v).bind fun r0 =>
 (brE (decide (((((ByteArray.size (ByteArray.mk (List.toArray [(104:UInt8),(101:UInt8),(97:UInt8),(100:UInt8),(101:UInt8),(114:UInt8),(32:UInt8)])))+r0.size):Nat):Int)>(Go.IntKind.max Go.IntKind.i64)))
 none
 (brE (decide (((((ByteArray.size ((ByteArray.mk (List.toArray [(104:UInt8),(101:UInt8),(97:UInt8),(100:UInt8),(101:UInt8),(114:UInt8),(32:UInt8)]))++r0))+(ByteArray.size (ByteArray.mk (List.toArray [(32:UInt8)])))):Nat):Int)>(Go.IntKind.max Go.IntKind.i64)))
 none
 (gL q5t q16x<|
 ((q18t q16u (dL q5t q16x) q16v q16w q16y t_N).bind fun r1 =>
 (brE (decide (((((ByteArray.size (((ByteArray.mk (List.toArray [(104:UInt8),(101:UInt8),(97:UInt8),(100:UInt8),(101:UInt8),(114:UInt8),(32:UInt8)]))++r0)++(ByteArray.mk (List.toArray [(32:UInt8)]))))+r1.size):Nat):Int)>(Go.IntKind.max Go.IntKind.i64)))
 none
 (some ((((ByteArray.mk (List.toArray [(104:UInt8),(101:UInt8),(97:UInt8),(100:UInt8),(101:UInt8),(114:UInt8),(32:UInt8)]))++r0)++(ByteArray.mk (List.toArray [(32:UInt8)])))++r1))))))))
 (brE (q16u==6)
 (gL q5t q16x<|
 ((q18t q16u (dL q5t q16x) q16v q16w q16y t_N).bind fun r0 =>
 (brE (decide (((((ByteArray.size (ByteArray.mk (List.toArray [(102:UInt8),(114:UInt8),(111:UInt8),(109:UInt8),(32:UInt8)])))+r0.size):Nat):Int)>(Go.IntKind.max Go.IntKind.i64)))
 none
 (some ((ByteArray.mk (List.toArray [(102:UInt8),(114:UInt8),(111:UInt8),(109:UInt8),(32:UInt8)]))++r0)))))
 (brE (q16u==7)
 (gL q5t q16x<|
 ((q18t q16u (dL q5t q16x) q16v q16w q16y t_N).bind fun r0 =>
 (brE (decide (((((ByteArray.size (ByteArray.mk (List.toArray [(116:UInt8),(111:UInt8),(32:UInt8)])))+r0.size):Nat):Int)>(Go.IntKind.max Go.IntKind.i64)))
 none
 (some ((ByteArray.mk (List.toArray [(116:UInt8),(111:UInt8),(32:UInt8)]))++r0)))))
 (brE (q16u==8)
 ((itoaP t_N).bind fun r0 =>
 (brE (decide (((((ByteArray.size (ByteArray.mk (List.toArray [(115:UInt8),(105:UInt8),(122:UInt8),(101:UInt8),(32:UInt8)])))+r0.size):Nat):Int)>(Go.IntKind.max Go.IntKind.i64)))
 none
 (some ((ByteArray.mk (List.toArray [(115:UInt8),(105:UInt8),(122:UInt8),(101:UInt8),(32:UInt8)]))++r0))))
 (brE (q16u==9)
 ((quoP q16v).bind fun r0 =>
 (brE (decide (((((ByteArray.size (ByteArray.mk (List.toArray [(101:UInt8),(120:UInt8),(105:UInt8),(115:UInt8),(116:UInt8),(115:UInt8),(32:UInt8)])))+r0.size):Nat):Int)>(Go.IntKind.max Go.IntKind.i64)))
 none
 (some ((ByteArray.mk (List.toArray [(101:UInt8),(120:UInt8),(105:UInt8),(115:UInt8),(116:UInt8),(115:UInt8),(32:UInt8)]))++r0))))
 (some (ByteArray.mk (List.toArray [(116:UInt8),(114:UInt8),(117:UInt8),(101:UInt8)])))))))))))
theorem q1a2 {q16u q16x q16v q16w q16y t_N r} (h:q1a4 q16u q16x q16v q16w q16y t_N=some r):q1a3 q16u q16x q16v q16w q16y t_N=some r :=
 q75 (es:=q1ah) (hs:=q9f) [] Tryz.func62 rfl (by kernel_rfl) rfl (by kernel_rfl) (by kernel_rfl) trivial trivial (by kernel_rfl) h
abbrev z1r:=(qb7 z1q (qb7 z1q (qb7 (vC (cSl q5t)) (qb7 (vC cStr) (qb7 z1q (qb7 (vC cStr) (qb7 z1q (qb7 (vC (cSl q5u)) (qb7 (vC (cSl q5u)) (qb7 z1q (qb7 (vC cStr) (qb7 (vC cStr) (qb9 z1q)))))))))))))
def q18v:=(qb7 (vAgg z1r) (qb9 z1q))
def q18w:Cod (V×List B) ByteArray:=z1t
def q19k (r_Kind r_Test_Kind:Int) (q16r:L57) (q16p:BA) (q16q:Int) (q16s:BA) (q16o:Int) (r_Then r_Else:L59) (r_Act:Int) (q16n q16t:BA) (r_N depth:Int):=fS Tryz.prog lv X0 48 q18v q18w ((r_Kind,r_Test_Kind,q16r,q16p,q16q,q16s,q16o,r_Then,r_Else,r_Act,q16n,q16t,r_N),depth)
def q18x:=entS Tryz.prog lv X0 48 [] q18v q18w (fun x=>q19k x.1.1 x.1.2.1 x.1.2.2.1 x.1.2.2.2.1 x.1.2.2.2.2.1 x.1.2.2.2.2.2.1 x.1.2.2.2.2.2.2.1 x.1.2.2.2.2.2.2.2.1 x.1.2.2.2.2.2.2.2.2.1 x.1.2.2.2.2.2.2.2.2.2.1 x.1.2.2.2.2.2.2.2.2.2.2.1 x.1.2.2.2.2.2.2.2.2.2.2.2.1 x.1.2.2.2.2.2.2.2.2.2.2.2.2 x.2) (fun _ _ h=>q74 h)
def q1ak:=q18x::q1ah
def q19m:=(qb7 (vC (cSl q5u)) (qb9 z1q))
def q19v:=sLS [1,5,8,9,10] (qb7 z1q (qb7 (vC cStr) (qb7 (vC (cSl q5u)) (qb7 z1q (qb9 z1q))))) qb8 [] [] (by decide) (fun _=>rfl)
def q19u:=sLS [1,5,8,9,10,11] (qb7 z1q (qb7 (vC cStr) (qb7 (vC (cSl q5u)) (qb7 z1q (qb7 z1q (qb9 (vC cBool))))))) qb8 [] [] (by decide) (fun _=>rfl)
def q19t:=oAt 2 q19u
def q19q (depth:Int) (out:BA) (t8:L59) (t9 t10:Int):=lS Tryz.prog lv X0 28 21 (q8x (cdF Tryz.f28) 3) q19v q19t ((depth,out,t8,t9,t10),())
abbrev z12 (t8:L59) (t10:Int):=(List.getD (EC.encL q5u t8) (Int.toNat t10) [])
def q19w (depth:Int) (out:BA) (t8:L59) (t9 t10:Int):Oq ((Int×BA×L59×Int×Int×Bool)×Unit) :=
 (brE (decide (t10<t9))
 (gdE (p0 t10)<|
 (gdE (eC q5u t8 t10 [(K1.int Go.IntKind.i64),(K1.int Go.IntKind.i64),K1.sl,K1.str,(K1.int Go.IntKind.i64),K1.str,(K1.int Go.IntKind.i64),K1.sl,K1.sl,(K1.int Go.IntKind.i64),K1.str,K1.str,(K1.int Go.IntKind.i64)])<|
 (gdE (EC.isL q5t (slOf (List.getD (z12 t8 t10) 2 C.ne)))<|
 (gdE (EC.isL q5u (slOf (List.getD (z12 t8 t10) 7 C.ne)))<|
 (gdE (EC.isL q5u (slOf (List.getD (z12 t8 t10) 8 C.ne)))<|
 ((q19k (qa0 (List.getD (z12 t8 t10) 0 C.ne)) (qa0 (List.getD (z12 t8 t10) 1 C.ne)) (uL q5t (List.getD (z12 t8 t10) 2 C.ne)) (q135 (List.getD (z12 t8 t10) 3 C.ne)) (qa0 (List.getD (z12 t8 t10) 4 C.ne)) (q135 (List.getD (z12 t8 t10) 5 C.ne)) (qa0 (List.getD (z12 t8 t10) 6 C.ne)) (uL q5u (List.getD (z12 t8 t10) 7 C.ne)) (uL q5u (List.getD (z12 t8 t10) 8 C.ne)) (qa0 (List.getD (z12 t8 t10) 9 C.ne)) (q135 (List.getD (z12 t8 t10) 10 C.ne)) (q135 (List.getD (z12 t8 t10) 11 C.ne)) (qa0 (List.getD (z12 t8 t10) 12 C.ne)) depth).bind fun r0 =>
 (brE (decide ((((out.size+r0.size):Nat):Int)>(Go.IntKind.max Go.IntKind.i64)))
 none
 (gL q5u t8<|
 (q19q depth (out++r0) (dL q5u t8) t9 (wI t10))))))))))
 (gL q5u t8<|
 (some ((depth,(out,((dL q5u t8),(t9,(t10,false))))),()))))
theorem q19s {depth out t8 t9 t10 r} (h:q19w depth out t8 t9 t10=some r):q19q depth out t8 t9 t10=some r :=
 qbb (es:=q1ak) (hs:=q9f) [] (by kernel_rfl) trivial trivial (by kernel_rfl) h
def q19r:=qby Tryz.prog lv X0 3 (q8x (cdF Tryz.f28) 3) q19v q19t (fun x=>q19q x.1.1 x.1.2.1 x.1.2.2.1 x.1.2.2.2.1 x.1.2.2.2.2) (fun _ _ h=>qba h)
def q19n:Cod (V×List B) ByteArray:=z1t
def q19x (s:L59) (depth:Int):=fS Tryz.prog lv X0 28 q19m q19n (s,depth)
def q19y (s:L59) (depth:Int):Oq BA :=
 (gL q5u s<|
 ((q19q depth ⟨#[]⟩ (dL q5u s) (lN q5u s:Int) 0).bind fun r0 =>
 (some r0.1.2.1)))
theorem q19p {s depth r} (h:q19y s depth=some r):q19x s depth=some r :=
 q75 (es:=q1ak) (hs:=q9f) [q19r] Tryz.func28 rfl (by kernel_rfl) rfl (by kernel_rfl) (by kernel_rfl) ⟨⟨_,rfl,rfl⟩,trivial⟩ trivial (by kernel_rfl) h
def q19o:=entS Tryz.prog lv X0 28 [] q19m q19n (fun x=>q19x x.1 x.2) (fun _ _ h=>q74 h)
def q1al:=q19o::q1ak
def q19i:=sLS [6] (qb9 (vC cStr)) qb8 [] [] (by decide) (fun _=>rfl)
def q19h:=sLS [4] (qb9 (vC cStr)) qb8 [] [] (by decide) (fun _=>rfl)
def q19g:=oAt 1 q19h
def q19d (out:BA):=gS Tryz.prog lv X0 48 91 (q8y (cdF Tryz.f48) 7) q19i q19g (out,())
def q19j (out:BA):Oq (BA×Unit) :=
 (brE (decide ((((out.size+(ByteArray.size (ByteArray.mk (List.toArray [(10:UInt8)])))):Nat):Int)>(Go.IntKind.max Go.IntKind.i64)))
 none
 (some ((out++(ByteArray.mk (List.toArray [(10:UInt8)]))),())))
theorem q19f {out r} (h:q19j out=some r):q19d out=some r :=
 q8r (es:=q1al) (hs:=q9f) [] (by kernel_rfl) trivial trivial (by kernel_rfl) h
def q19e:=gentS Tryz.prog lv X0 7 (q8y (cdF Tryz.f48) 7) (by kernel_rfl) q19i q19g (fun x=>q19d x.1) (fun _ _ h=>q8q h)
def q19b:=sLS [7] (qb9 (vC cStr)) qb8 [] [] (by decide) (fun _=>rfl)
def q19a:=sLS [4] (qb9 (vC cStr)) qb8 [] [] (by decide) (fun _=>rfl)
def q199:=oAt 1 q19a
def q196 (out:BA):=gS Tryz.prog lv X0 48 91 (q8y (cdF Tryz.f48) 17) q19b q199 (out,())
def q19c (out:BA):Oq (BA×Unit) :=
 (brE (decide ((((out.size+(ByteArray.size (ByteArray.mk (List.toArray [(59:UInt8),(10:UInt8)])))):Nat):Int)>(Go.IntKind.max Go.IntKind.i64)))
 none
 (some ((out++(ByteArray.mk (List.toArray [(59:UInt8),(10:UInt8)]))),())))
theorem q198 {out r} (h:q19c out=some r):q196 out=some r :=
 q8r (es:=q1al) (hs:=q9f) [] (by kernel_rfl) trivial trivial (by kernel_rfl) h
def q197:=gentS Tryz.prog lv X0 17 (q8y (cdF Tryz.f48) 17) (by kernel_rfl) q19b q199 (fun x=>q196 x.1) (fun _ _ h=>q8q h)
def q194:=sLS [2,7] (qb7 (vPtr 0 0) (qb9 (vC cStr))) (qb9 (qdm (bBox z1r))) [false] [] (by decide) (fun _=>rfl)
def q193:=sLS [4] (qb9 (vC cStr)) qb8 [] [] (by decide) (fun _=>rfl)
def q192:=oAt 1 q193
def q18z (out:BA) (b0 b0_1:Int) (b0_2:L57) (b0_3:BA) (b0_4:Int) (b0_5:BA) (b0_6:Int) (b0_7 b0_8:L59) (b0_9:Int) (b0_10 b0_11:BA) (b0_12:Int):=gS Tryz.prog lv X0 48 91 (q8y (cdF Tryz.f48) 15) q194 q192 (((),out),(b0,b0_1,b0_2,b0_3,b0_4,b0_5,b0_6,b0_7,b0_8,b0_9,b0_10,b0_11,b0_12))
def q195 (out:BA) (b0 b0_1:Int) (b0_2:L57) (b0_3:BA) (b0_4:Int) (b0_5:BA) (b0_6:Int) (b0_7 b0_8:L59) (b0_9:Int) (b0_10 b0_11:BA) (b0_12:Int):Oq (BA×Unit) :=
 (brE (b0_9==6)
 ((itoaP b0_12).bind fun r0 =>
 (brE (decide (((((ByteArray.size (ByteArray.mk (List.toArray [(32:UInt8)])))+r0.size):Nat):Int)>(Go.IntKind.max Go.IntKind.i64)))
 none
 (brE (decide ((((out.size+(ByteArray.size ((ByteArray.mk (List.toArray [(32:UInt8)]))++r0))):Nat):Int)>(Go.IntKind.max Go.IntKind.i64)))
 none
 ((q196 (out++((ByteArray.mk (List.toArray [(32:UInt8)]))++r0))).bind fun r1 =>
 (some (r1.1,()))))))
 ((q196 out).bind fun r0 =>
 (some (r0.1,()))))
theorem q191 {out b0 b0_1 b0_2 b0_3 b0_4 b0_5 b0_6 b0_7 b0_8 b0_9 b0_10 b0_11 b0_12 r} (h:q195 out b0 b0_1 b0_2 b0_3 b0_4 b0_5 b0_6 b0_7 b0_8 b0_9 b0_10 b0_11 b0_12=some r):q18z out b0 b0_1 b0_2 b0_3 b0_4 b0_5 b0_6 b0_7 b0_8 b0_9 b0_10 b0_11 b0_12=some r :=
 q8r (es:=q1al) (hs:=q9f) [q197] (by kernel_rfl) trivial ⟨⟨_,rfl,rfl⟩,trivial⟩ (by kernel_rfl) h
def q190:=gentS Tryz.prog lv X0 15 (q8y (cdF Tryz.f48) 15) (by kernel_rfl) q194 q192 (fun x=>q18z x.1.2 x.2.1 x.2.2.1 x.2.2.2.1 x.2.2.2.2.1 x.2.2.2.2.2.1 x.2.2.2.2.2.2.1 x.2.2.2.2.2.2.2.1 x.2.2.2.2.2.2.2.2.1 x.2.2.2.2.2.2.2.2.2.1 x.2.2.2.2.2.2.2.2.2.2.1 x.2.2.2.2.2.2.2.2.2.2.2.1 x.2.2.2.2.2.2.2.2.2.2.2.2.1 x.2.2.2.2.2.2.2.2.2.2.2.2.2) (fun _ _ h=>q8q h)
abbrev z13 (r_Act:Int):=(Int.toNat (IntKind.wrap .i64 (r_Act - 1)))
def q19l (r_Kind r_Test_Kind:Int) (q16r:L57) (q16p:BA) (q16q:Int) (q16s:BA) (q16o:Int) (r_Then r_Else:L59) (r_Act:Int) (q16n q16t:BA) (r_N depth:Int):Oq BA :=
 ((repP (ByteArray.mk (List.toArray [(32:UInt8),(32:UInt8)])) depth).bind fun r0 =>
 (brE (r_Kind==1)
 (brE (decide ((((r0.size+(ByteArray.size (ByteArray.mk (List.toArray [(105:UInt8),(102:UInt8),(32:UInt8)])))):Nat):Int)>(Go.IntKind.max Go.IntKind.i64)))
 none
 (gL q5t q16r<|
 ((q1a3 r_Test_Kind (dL q5t q16r) q16p q16q q16s q16o).bind fun r1 =>
 (brE (decide (((((ByteArray.size (r0++(ByteArray.mk (List.toArray [(105:UInt8),(102:UInt8),(32:UInt8)]))))+r1.size):Nat):Int)>(Go.IntKind.max Go.IntKind.i64)))
 none
 (brE (decide (((((ByteArray.size ((r0++(ByteArray.mk (List.toArray [(105:UInt8),(102:UInt8),(32:UInt8)])))++r1))+(ByteArray.size (ByteArray.mk (List.toArray [(32:UInt8),(123:UInt8),(10:UInt8)])))):Nat):Int)>(Go.IntKind.max Go.IntKind.i64)))
 none
 (gL q5u r_Then<|
 ((q19x (dL q5u r_Then) (wI depth)).bind fun r2 =>
 (brE (decide (((((ByteArray.size (((r0++(ByteArray.mk (List.toArray [(105:UInt8),(102:UInt8),(32:UInt8)])))++r1)++(ByteArray.mk (List.toArray [(32:UInt8),(123:UInt8),(10:UInt8)]))))+r2.size):Nat):Int)>(Go.IntKind.max Go.IntKind.i64)))
 none
 (brE (decide (((((ByteArray.size ((((r0++(ByteArray.mk (List.toArray [(105:UInt8),(102:UInt8),(32:UInt8)])))++r1)++(ByteArray.mk (List.toArray [(32:UInt8),(123:UInt8),(10:UInt8)])))++r2))+r0.size):Nat):Int)>(Go.IntKind.max Go.IntKind.i64)))
 none
 (brE (decide (((((ByteArray.size (((((r0++(ByteArray.mk (List.toArray [(105:UInt8),(102:UInt8),(32:UInt8)])))++r1)++(ByteArray.mk (List.toArray [(32:UInt8),(123:UInt8),(10:UInt8)])))++r2)++r0))+(ByteArray.size (ByteArray.mk (List.toArray [(125:UInt8)])))):Nat):Int)>(Go.IntKind.max Go.IntKind.i64)))
 none
 (brE (decide ((lN q5u r_Else:Int)>0))
 (gL q5u r_Else<|
 ((q19x (dL q5u r_Else) (wI depth)).bind fun r3 =>
 (brE (decide (((((ByteArray.size (ByteArray.mk (List.toArray [(32:UInt8),(101:UInt8),(108:UInt8),(115:UInt8),(101:UInt8),(32:UInt8),(123:UInt8),(10:UInt8)])))+r3.size):Nat):Int)>(Go.IntKind.max Go.IntKind.i64)))
 none
 (brE (decide (((((ByteArray.size ((ByteArray.mk (List.toArray [(32:UInt8),(101:UInt8),(108:UInt8),(115:UInt8),(101:UInt8),(32:UInt8),(123:UInt8),(10:UInt8)]))++r3))+r0.size):Nat):Int)>(Go.IntKind.max Go.IntKind.i64)))
 none
 (brE (decide (((((ByteArray.size (((ByteArray.mk (List.toArray [(32:UInt8),(101:UInt8),(108:UInt8),(115:UInt8),(101:UInt8),(32:UInt8),(123:UInt8),(10:UInt8)]))++r3)++r0))+(ByteArray.size (ByteArray.mk (List.toArray [(125:UInt8)])))):Nat):Int)>(Go.IntKind.max Go.IntKind.i64)))
 none
 (brE (decide (((((ByteArray.size ((((((r0++(ByteArray.mk (List.toArray [(105:UInt8),(102:UInt8),(32:UInt8)])))++r1)++(ByteArray.mk (List.toArray [(32:UInt8),(123:UInt8),(10:UInt8)])))++r2)++r0)++(ByteArray.mk (List.toArray [(125:UInt8)]))))+(ByteArray.size ((((ByteArray.mk (List.toArray [(32:UInt8),(101:UInt8),(108:UInt8),(115:UInt8),(101:UInt8),(32:UInt8),(123:UInt8),(10:UInt8)]))++r3)++r0)++(ByteArray.mk (List.toArray [(125:UInt8)]))))):Nat):Int)>(Go.IntKind.max Go.IntKind.i64)))
 none
 (Option.bind (q19d (((((((r0++(ByteArray.mk (List.toArray [(105:UInt8),(102:UInt8),(32:UInt8)])))++r1)++(ByteArray.mk (List.toArray [(32:UInt8),(123:UInt8),(10:UInt8)])))++r2)++r0)++(ByteArray.mk (List.toArray [(125:UInt8)])))++((((ByteArray.mk (List.toArray [(32:UInt8),(101:UInt8),(108:UInt8),(115:UInt8),(101:UInt8),(32:UInt8),(123:UInt8),(10:UInt8)]))++r3)++r0)++(ByteArray.mk (List.toArray [(125:UInt8)]))))) fun r4 =>
 (some r4.1))))))))
 (Option.bind (q19d ((((((r0++(ByteArray.mk (List.toArray [(105:UInt8),(102:UInt8),(32:UInt8)])))++r1)++(ByteArray.mk (List.toArray [(32:UInt8),(123:UInt8),(10:UInt8)])))++r2)++r0)++(ByteArray.mk (List.toArray [(125:UInt8)])))) fun r3 =>
 (some r3.1)))))))))))))
 (brE (r_Kind==3)
 (brE (decide ((((r0.size+(ByteArray.size (ByteArray.mk (List.toArray [(115:UInt8),(101:UInt8),(116:UInt8),(32:UInt8)])))):Nat):Int)>(Go.IntKind.max Go.IntKind.i64)))
 none
 (brE (decide (((((ByteArray.size (r0++(ByteArray.mk (List.toArray [(115:UInt8),(101:UInt8),(116:UInt8),(32:UInt8)]))))+q16n.size):Nat):Int)>(Go.IntKind.max Go.IntKind.i64)))
 none
 (brE (decide (((((ByteArray.size ((r0++(ByteArray.mk (List.toArray [(115:UInt8),(101:UInt8),(116:UInt8),(32:UInt8)])))++q16n))+(ByteArray.size (ByteArray.mk (List.toArray [(32:UInt8)])))):Nat):Int)>(Go.IntKind.max Go.IntKind.i64)))
 none
 ((quoP q16t).bind fun r1 =>
 (brE (decide (((((ByteArray.size (((r0++(ByteArray.mk (List.toArray [(115:UInt8),(101:UInt8),(116:UInt8),(32:UInt8)])))++q16n)++(ByteArray.mk (List.toArray [(32:UInt8)]))))+r1.size):Nat):Int)>(Go.IntKind.max Go.IntKind.i64)))
 none
 (brE (decide (((((ByteArray.size ((((r0++(ByteArray.mk (List.toArray [(115:UInt8),(101:UInt8),(116:UInt8),(32:UInt8)])))++q16n)++(ByteArray.mk (List.toArray [(32:UInt8)])))++r1))+(ByteArray.size (ByteArray.mk (List.toArray [(59:UInt8),(10:UInt8)])))):Nat):Int)>(Go.IntKind.max Go.IntKind.i64)))
 none
 (some (((((r0++(ByteArray.mk (List.toArray [(115:UInt8),(101:UInt8),(116:UInt8),(32:UInt8)])))++q16n)++(ByteArray.mk (List.toArray [(32:UInt8)])))++r1)++(ByteArray.mk (List.toArray [(59:UInt8),(10:UInt8)]))))))))))
 (brE (r_Kind==4)
 (brE (decide ((((r0.size+(ByteArray.size (ByteArray.mk (List.toArray [(115:UInt8),(116:UInt8),(111:UInt8),(112:UInt8),(59:UInt8),(10:UInt8)])))):Nat):Int)>(Go.IntKind.max Go.IntKind.i64)))
 none
 (some (r0++(ByteArray.mk (List.toArray [(115:UInt8),(116:UInt8),(111:UInt8),(112:UInt8),(59:UInt8),(10:UInt8)])))))
 (Option.bind qtc fun r1 =>
 (gdE (((p0 (IntKind.wrap .i64 (r_Act - 1)))&&(decide ((IntKind.wrap .i64 (r_Act - 1))<((7:Nat):Int))))&&(decide ((z13 r_Act)<(List.length [r1.1,r1.2.1,r1.2.2.1,r1.2.2.2.1,r1.2.2.2.2.1,r1.2.2.2.2.2.1,r1.2.2.2.2.2.2]))))<|
 (brE (decide ((((r0.size+(ByteArray.size (List.getD [r1.1,r1.2.1,r1.2.2.1,r1.2.2.2.1,r1.2.2.2.2.1,r1.2.2.2.2.2.1,r1.2.2.2.2.2.2] (z13 r_Act) ByteArray.empty))):Nat):Int)>(Go.IntKind.max Go.IntKind.i64)))
 none
 ((qzn r_Act).bind fun r2 =>
 (brE r2
 ((quoP q16t).bind fun r3 =>
 (brE (decide (((((ByteArray.size (ByteArray.mk (List.toArray [(32:UInt8)])))+r3.size):Nat):Int)>(Go.IntKind.max Go.IntKind.i64)))
 none
 (brE (decide (((((ByteArray.size (r0++(List.getD [r1.1,r1.2.1,r1.2.2.1,r1.2.2.2.1,r1.2.2.2.2.1,r1.2.2.2.2.2.1,r1.2.2.2.2.2.2] (z13 r_Act) ByteArray.empty)))+(ByteArray.size ((ByteArray.mk (List.toArray [(32:UInt8)]))++r3))):Nat):Int)>(Go.IntKind.max Go.IntKind.i64)))
 none
 (gL q5t q16r<|
 (gL q5u r_Then<|
 (gL q5u r_Else<|
 (Option.bind (q18z ((r0++(List.getD [r1.1,r1.2.1,r1.2.2.1,r1.2.2.2.1,r1.2.2.2.2.1,r1.2.2.2.2.2.1,r1.2.2.2.2.2.2] (z13 r_Act) ByteArray.empty))++((ByteArray.mk (List.toArray [(32:UInt8)]))++r3)) r_Kind r_Test_Kind (dL q5t q16r) q16p q16q q16s q16o (dL q5u r_Then) (dL q5u r_Else) r_Act q16n q16t r_N) fun r4 =>
 (some r4.1))))))))
 (gL q5t q16r<|
 (gL q5u r_Then<|
 (gL q5u r_Else<|
 ((q18z (r0++(List.getD [r1.1,r1.2.1,r1.2.2.1,r1.2.2.2.1,r1.2.2.2.2.1,r1.2.2.2.2.2.1,r1.2.2.2.2.2.2] (z13 r_Act) ByteArray.empty)) r_Kind r_Test_Kind (dL q5t q16r) q16p q16q q16s q16o (dL q5u r_Then) (dL q5u r_Else) r_Act q16n q16t r_N).bind fun r3 =>
 (some r3.1))))))))))))))
theorem q18y {r_Kind r_Test_Kind q16r q16p q16q q16s q16o r_Then r_Else r_Act q16n q16t r_N depth r} (h:q19l r_Kind r_Test_Kind q16r q16p q16q q16s q16o r_Then r_Else r_Act q16n q16t r_N depth=some r):q19k r_Kind r_Test_Kind q16r q16p q16q q16s q16o r_Then r_Else r_Act q16n q16t r_N depth=some r :=
 q75 (es:=q1al) (hs:=q9f) [q19e,q190] Tryz.func48 rfl (by kernel_rfl) rfl (by kernel_rfl) (by kernel_rfl) trivial ⟨⟨_,rfl,rfl⟩,⟨_,rfl,rfl⟩,trivial⟩ (by kernel_rfl) h
def q18i:=(qb9 (vC (cSl q5u)))
def q18j:Cod (V×List B) (ByteArray×(Int×Int)):=(cFstU (cPair (vTup (qb7 (vC cStr) (qb9 (vAgg (qb7 z1q (qb9 z1q)))))) qb8))
def q18m (s:L59):=fS Tryz.prog lv X0 12 q18i q18j s
def q18n (s:L59):Oq (BA×(Int×Int)) :=
 (gL q5u s<|
 ((qt6 (dL q5u s)).bind fun r0 =>
 ((q35 r0.1 r0.2).bind fun r1 =>
 (brE r1
 (some (⟨#[]⟩,(r0.1,r0.2)))
 (gL q5u s<|
 ((q19x (dL q5u s) 0).bind fun r2 =>
 (brE (decide ((r2.size:Int)>4000))
 ((q3b 1 (-1)).bind fun r3 =>
 (some (⟨#[]⟩,(r3.1,r3.2))))
 (Option.bind q3h fun r3 =>
 (some (r2,(r3.1,r3.2)))))))))))
theorem q18l {s r} (h:q18n s=some r):q18m s=some r :=
 q75 (es:=q1al) (hs:=q9f) [] Tryz.func12 rfl (by kernel_rfl) rfl (by kernel_rfl) (by kernel_rfl) trivial trivial (by kernel_rfl) h
def q18k:=entS Tryz.prog lv X0 12 [] q18i q18j (fun x=>q18m x) (fun _ _ h=>q74 h)
def q1ai:=q18k::q1al
end
end Go.Proofs.YtognhcibcocbkaaGreatDoor
namespace Go.Proofs.YtognhcibcocbkaaGreatDoor
open Go.RowKit
set_option maxRecDepth 100000
noncomputable section
structure S53 where
 Kind:Int
 Text:ByteArray
 At:Int
end
set_option maxRecDepth 1000000 in
theorem q118:callD Tryz.prog (fzL lv) X0.c (execD Tryz.prog lv X0 200) 11 []=some (.c (.bool true),[]):=by kernel_rfl
def scr_ca:Cod (List V) Unit:=qb8
def scr_cr:Cod (V×List B) Bool:=cFstU (cPair (vC cBool) qb8)
def scrS:Option Bool:=some true
theorem q117 (x:Unit) (r:Bool) (h:scrS=some r):Call Tryz.prog lv X0 11 (scr_ca.enc x)=some (scr_cr.enc r):=by
 cases r with
 |true=>exact qd q118
 |false=>unfold scrS at h;cases h
noncomputable def scr_e:=entS Tryz.prog lv X0 11 [] scr_ca scr_cr (fun _=>scrS) q117
noncomputable def tabk:=scr_e::q1ai
end Go.Proofs.YtognhcibcocbkaaGreatDoor
