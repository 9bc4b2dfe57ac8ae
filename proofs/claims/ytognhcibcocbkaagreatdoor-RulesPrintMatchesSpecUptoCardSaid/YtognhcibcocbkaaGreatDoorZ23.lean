/- strings.Join, as a rule: its row in the table. -/
import Derived.Test.YtognhcibcocbkaaGreatDoorH3
namespace Go.Proofs.YtognhcibcocbkaaGreatDoor
open Go.RowKit
theorem qsz (l:List ByteArray):strsOf (q5m.encL l)=some l:=by
 induction l with
 |nil=>rfl
 |cons s l ih =>
  have e:q5m.encL (s::l)=[.str s]::q5m.encL l:=rfl
  rw [e]
  simp only [strsOf,ih,Option.map_some]
abbrev z2d:=(qaj (vC cStr))
def qa5:=qah (vC (cSl q5m)) z2d
def qa8:Cod (V×List B) ByteArray:=cFstU (cPair (vC cStr) qai)
theorem qa6 (x:List ByteArray×ByteArray) (r:ByteArray) (h:joinP x.1 x.2=some r):Call Tryz.prog lv X0 86 (qa5.enc x)=some (qa8.enc r):=by
 have:X0.c 86 (qa5.enc x)=some (qa8.enc r):=by
  show ((strsOf (q5m.encL x.1)).bind fun l=>(joinP l x.2).map fun b=>((V.c (.str b),[]):V×List B))=_
  rw [qsz]
  simp only [Option.bind_some,h]
  rfl
 unfold Call callD
 rw [this]
noncomputable def join_e:=entS Tryz.prog lv X0 86 [] qa5 qa8 (fun x=>joinP x.1 x.2) qa6
noncomputable def tabj:=join_e::q16t
end Go.Proofs.YtognhcibcocbkaaGreatDoor
namespace Go.Proofs.YtognhcibcocbkaaGreatDoor
open Go.RowKit
set_option maxRecDepth 100000
noncomputable section
abbrev z29:=(vC (cInt .i64))
abbrev z2b:=(qaj (vAgg (qah z29 (qah (vC (cSl q5k)) (qah (vC cStr) (qah z29 (qah (vC cStr) (qaj z29))))))))
def qij:=z2b
abbrev z2c:=(cFstU (cPair (vC cStr) (qai (ρ:=B))))
def qik:Cod (V×List B) ByteArray:=z2c
def qin (qt6:Int) (qt9:L57) (qt7:BA) (qt8:Int) (qta:BA) (t_N:Int):=fS Tryz.prog lv X0 87 qij qik (qt6,qt9,qt7,qt8,qta,t_N)
def qio (qt6:Int) (qt9:L57) (qt7:BA) (qt8:Int) (qta:BA) (t_N:Int):Oq BA :=
 (Option.bind qit fun r0 =>
 (gdE (((p0 (IntKind.wrap .i64 (qt8 - 1)))&&(decide ((IntKind.wrap .i64 (qt8 - 1))<((3:Nat):Int))))&&(decide ((Int.toNat (IntKind.wrap .i64 (qt8 - 1)))<(List.length [r0.1,r0.2.1,r0.2.2]))))<|
 (brE (decide (((((ByteArray.size (List.getD [r0.1,r0.2.1,r0.2.2] (Int.toNat (IntKind.wrap .i64 (qt8 - 1))) ByteArray.empty))+(ByteArray.size (ByteArray.mk (List.toArray [(32:UInt8)])))):Nat):Int)>(Go.IntKind.max Go.IntKind.i64)))
 none
 ((quoP qta).bind fun r1 =>
 (brE (decide (((((ByteArray.size ((List.getD [r0.1,r0.2.1,r0.2.2] (Int.toNat (IntKind.wrap .i64 (qt8 - 1))) ByteArray.empty)++(ByteArray.mk (List.toArray [(32:UInt8)]))))+r1.size):Nat):Int)>(Go.IntKind.max Go.IntKind.i64)))
 none
 (some (((List.getD [r0.1,r0.2.1,r0.2.2] (Int.toNat (IntKind.wrap .i64 (qt8 - 1))) ByteArray.empty)++(ByteArray.mk (List.toArray [(32:UInt8)])))++r1)))))))
theorem qim {qt6 qt9 qt7 qt8 qta t_N r} (h:qio qt6 qt9 qt7 qt8 qta t_N=some r):qin qt6 qt9 qt7 qt8 qta t_N=some r :=
 q6x (es:=tabj) (hs:=q97) [] Tryz.func87 rfl (by kernel_rfl) rfl (by kernel_rfl) (by kernel_rfl) trivial trivial (by kernel_rfl) h
def qil:=entS Tryz.prog lv X0 87 [] qij qik (fun x=>qin x.1 x.2.1 x.2.2.1 x.2.2.2.1 x.2.2.2.2.1 x.2.2.2.2.2) (fun _ _ h=>q6w h)
def qtp:=qil::tabj
def qk5:=z2b
def qk6:Cod (V×List B) ByteArray:=z2c
def qk9 (qt6:Int) (qt9:L57) (qt7:BA) (qt8:Int) (qta:BA) (t_N:Int):=fS Tryz.prog lv X0 62 qk5 qk6 (qt6,qt9,qt7,qt8,qta,t_N)
def qk7:=entS Tryz.prog lv X0 62 [] qk5 qk6 (fun x=>qk9 x.1 x.2.1 x.2.2.1 x.2.2.2.1 x.2.2.2.2.1 x.2.2.2.2.2) (fun _ _ h=>q6w h)
def qtu:=qk7::qtp
def qd2:=(qaj (vEptr (qah (cInt .i64) (qah (cSl q5k) (qah cStr (qah (cInt .i64) (qah cStr (qaj (cInt .i64))))))) 0))
def qdb:=sLS [2,6,7,8] (qah (vRow 0) (qah (vC (cSl q5k)) (qah z29 (qaj z29)))) (qaj (qd1 (bRow q5m))) [false] [] (by decide) (fun _=>rfl)
def qda:=sLS [2,6,7,8,9] (qah (vRow 0) (qah (vC (cSl q5k)) (qah z29 (qah z29 (qaj (vC cBool)))))) (qaj (qd1 (bRow q5m))) [false] [] (by decide) (fun _=>rfl)
def qd9:=oAt 2 qda
def qd6 (out:Nat) (t6:L57) (t7 t8:Int) (b0:LB):=lS Tryz.prog lv X0 85 22 (q8l (cdF Tryz.f85) 3) qdb qd9 ((out,t6,t7,t8),b0)
abbrev z1c (t6:L57) (t8:Int):=(List.getD (EC.encL q5k t6) (Int.toNat t8) [])
def qdc (out:Nat) (t6:L57) (t7 t8:Int) (b0:LB):Oq ((Nat×L57×Int×Int×Bool)×LB) :=
 (brE (decide (t8<t7))
 (gdE (p0 t8)<|
 (gdE (eC q5k t6 t8 [(K1.int Go.IntKind.i64),K1.sl,K1.str,(K1.int Go.IntKind.i64),K1.str,(K1.int Go.IntKind.i64)])<|
 (gdE (EC.isL q5k (slOf (List.getD (z1c t6 t8) 1 C.ne)))<|
 ((qk9 (q9n (List.getD (z1c t6 t8) 0 C.ne)) (uL q5k (List.getD (z1c t6 t8) 1 C.ne)) (qss (List.getD (z1c t6 t8) 2 C.ne)) (q9n (List.getD (z1c t6 t8) 3 C.ne)) (qss (List.getD (z1c t6 t8) 4 C.ne)) (q9n (List.getD (z1c t6 t8) 5 C.ne))).bind fun r0 =>
 (gdE ((((aL [[(C.str r0)]] 1)&&(aL (EC.encL q5m b0) 1))&&(dQ (out+(List.length [[(C.str r0)]])) 16))&&(dM (out+(List.length [[(C.str r0)]]))))<|
 (gL q5k t6<|
 (gdE (EC.isL q5m ((EC.encL q5m b0)++[[(C.str r0)]]))<|
 (qd6 (out+(List.length [[(C.str r0)]])) (dL q5k t6) t7 (wI t8) (EC.decL q5m ((EC.encL q5m b0)++[[(C.str r0)]]))))))))))
 (gL q5k t6<|
 (gL q5m b0<|
 (some ((out,((dL q5k t6),(t7,(t8,false)))),(dL q5m b0))))))
theorem qd8 {out t6 t7 t8 b0 r} (h:qdc out t6 t7 t8 b0=some r):qd6 out t6 t7 t8 b0=some r :=
 qal (es:=qtu) (hs:=q97) [] (by kernel_rfl) trivial trivial (by kernel_rfl) h
def qd7:=qb9 Tryz.prog lv X0 3 (q8l (cdF Tryz.f85) 3) qdb qd9 (fun x=>qd6 x.1.1 x.1.2.1 x.1.2.2.1 x.1.2.2.2 x.2) (fun _ _ h=>qak h)
def qd3:Cod (V×List B) ByteArray:=z2c
def qdd (c0_0:Int) (c0_1:L57) (c0_2:BA) (c0_3:Int) (c0_4:BA) (c0_5:Int):=fS Tryz.prog lv X0 85 qd2 qd3 (c0_0,c0_1,c0_2,c0_3,c0_4,c0_5)
def qde (c0_0:Int) (c0_1:L57) (c0_2:BA) (c0_3:Int) (c0_4:BA) (c0_5:Int):Oq BA :=
 (gL q5k c0_1<|
 ((qd6 0 (dL q5k c0_1) (lN q5k c0_1:Int) 0 (EC.decL q5m [])).bind fun r0 =>
 (gL q5m r0.2<|
 ((joinP (dL q5m r0.2) (ByteArray.mk (List.toArray [(44:UInt8),(32:UInt8)]))).bind fun r1 =>
 (brE (decide (((((ByteArray.size (ByteArray.mk (List.toArray [(40:UInt8)])))+r1.size):Nat):Int)>(Go.IntKind.max Go.IntKind.i64)))
 none
 (brE (decide (((((ByteArray.size ((ByteArray.mk (List.toArray [(40:UInt8)]))++r1))+(ByteArray.size (ByteArray.mk (List.toArray [(41:UInt8)])))):Nat):Int)>(Go.IntKind.max Go.IntKind.i64)))
 none
 (some (((ByteArray.mk (List.toArray [(40:UInt8)]))++r1)++(ByteArray.mk (List.toArray [(41:UInt8)]))))))))))
theorem qd5 {c0_0 c0_1 c0_2 c0_3 c0_4 c0_5 r} (h:qde c0_0 c0_1 c0_2 c0_3 c0_4 c0_5=some r):qdd c0_0 c0_1 c0_2 c0_3 c0_4 c0_5=some r :=
 q6x (es:=qtu) (hs:=q97) [qd7] Tryz.func85 rfl (by kernel_rfl) rfl (by kernel_rfl) (by kernel_rfl) ⟨⟨_,rfl,rfl⟩,trivial⟩ trivial (by kernel_rfl) h
def qd4:=entS Tryz.prog lv X0 85 [] qd2 qd3 (fun x=>qdd x.1 x.2.1 x.2.2.1 x.2.2.2.1 x.2.2.2.2.1 x.2.2.2.2.2) (fun _ _ h=>q6w h)
def qth:=qd4::qtu
abbrev z1d (qt9:L57):=(List.getD (EC.encL q5k qt9) (Int.toNat 0) [])
def qka (qt6:Int) (qt9:L57) (qt7:BA) (qt8:Int) (qta:BA) (t_N:Int):Oq BA :=
 (brE (qt6==2)
 (gdE (eC q5k qt9 0 [(K1.int Go.IntKind.i64),K1.sl,K1.str,(K1.int Go.IntKind.i64),K1.str,(K1.int Go.IntKind.i64)])<|
 (gdE (EC.isL q5k (slOf (List.getD (z1d qt9) 1 C.ne)))<|
 ((qk9 (q9n (List.getD (z1d qt9) 0 C.ne)) (uL q5k (List.getD (z1d qt9) 1 C.ne)) (qss (List.getD (z1d qt9) 2 C.ne)) (q9n (List.getD (z1d qt9) 3 C.ne)) (qss (List.getD (z1d qt9) 4 C.ne)) (q9n (List.getD (z1d qt9) 5 C.ne))).bind fun r0 =>
 (brE (decide (((((ByteArray.size (ByteArray.mk (List.toArray [(110:UInt8),(111:UInt8),(116:UInt8),(32:UInt8)])))+r0.size):Nat):Int)>(Go.IntKind.max Go.IntKind.i64)))
 none
 (some ((ByteArray.mk (List.toArray [(110:UInt8),(111:UInt8),(116:UInt8),(32:UInt8)]))++r0))))))
 (brE (qt6==3)
 (gL q5k qt9<|
 ((qdd qt6 (dL q5k qt9) qt7 qt8 qta t_N).bind fun r0 =>
 (brE (decide (((((ByteArray.size (ByteArray.mk (List.toArray [(97:UInt8),(108:UInt8),(108:UInt8),(32:UInt8)])))+r0.size):Nat):Int)>(Go.IntKind.max Go.IntKind.i64)))
 none
 (some ((ByteArray.mk (List.toArray [(97:UInt8),(108:UInt8),(108:UInt8),(32:UInt8)]))++r0)))))
 (brE (qt6==4)
 (gL q5k qt9<|
 ((qdd qt6 (dL q5k qt9) qt7 qt8 qta t_N).bind fun r0 =>
 (brE (decide (((((ByteArray.size (ByteArray.mk (List.toArray [(97:UInt8),(110:UInt8),(121:UInt8),(32:UInt8)])))+r0.size):Nat):Int)>(Go.IntKind.max Go.IntKind.i64)))
 none
 (some ((ByteArray.mk (List.toArray [(97:UInt8),(110:UInt8),(121:UInt8),(32:UInt8)]))++r0)))))
 (brE (qt6==5)
 ((quoP qt7).bind fun r0 =>
 (brE (decide (((((ByteArray.size (ByteArray.mk (List.toArray [(104:UInt8),(101:UInt8),(97:UInt8),(100:UInt8),(101:UInt8),(114:UInt8),(32:UInt8)])))+r0.size):Nat):Int)>(Go.IntKind.max Go.IntKind.i64)))
 none
 (brE (decide (((((ByteArray.size ((ByteArray.mk (List.toArray [(104:UInt8),(101:UInt8),(97:UInt8),(100:UInt8),(101:UInt8),(114:UInt8),(32:UInt8)]))++r0))+(ByteArray.size (ByteArray.mk (List.toArray [(32:UInt8)])))):Nat):Int)>(Go.IntKind.max Go.IntKind.i64)))
 none
 (gL q5k qt9<|
 ((qin qt6 (dL q5k qt9) qt7 qt8 qta t_N).bind fun r1 =>
 (brE (decide (((((ByteArray.size (((ByteArray.mk (List.toArray [(104:UInt8),(101:UInt8),(97:UInt8),(100:UInt8),(101:UInt8),(114:UInt8),(32:UInt8)]))++r0)++(ByteArray.mk (List.toArray [(32:UInt8)]))))+r1.size):Nat):Int)>(Go.IntKind.max Go.IntKind.i64)))
 none
 (some ((((ByteArray.mk (List.toArray [(104:UInt8),(101:UInt8),(97:UInt8),(100:UInt8),(101:UInt8),(114:UInt8),(32:UInt8)]))++r0)++(ByteArray.mk (List.toArray [(32:UInt8)])))++r1))))))))
 (brE (qt6==6)
 (gL q5k qt9<|
 ((qin qt6 (dL q5k qt9) qt7 qt8 qta t_N).bind fun r0 =>
 (brE (decide (((((ByteArray.size (ByteArray.mk (List.toArray [(102:UInt8),(114:UInt8),(111:UInt8),(109:UInt8),(32:UInt8)])))+r0.size):Nat):Int)>(Go.IntKind.max Go.IntKind.i64)))
 none
 (some ((ByteArray.mk (List.toArray [(102:UInt8),(114:UInt8),(111:UInt8),(109:UInt8),(32:UInt8)]))++r0)))))
 (brE (qt6==7)
 (gL q5k qt9<|
 ((qin qt6 (dL q5k qt9) qt7 qt8 qta t_N).bind fun r0 =>
 (brE (decide (((((ByteArray.size (ByteArray.mk (List.toArray [(116:UInt8),(111:UInt8),(32:UInt8)])))+r0.size):Nat):Int)>(Go.IntKind.max Go.IntKind.i64)))
 none
 (some ((ByteArray.mk (List.toArray [(116:UInt8),(111:UInt8),(32:UInt8)]))++r0)))))
 (brE (qt6==8)
 ((itoaP t_N).bind fun r0 =>
 (brE (decide (((((ByteArray.size (ByteArray.mk (List.toArray [(115:UInt8),(105:UInt8),(122:UInt8),(101:UInt8),(32:UInt8)])))+r0.size):Nat):Int)>(Go.IntKind.max Go.IntKind.i64)))
 none
 (some ((ByteArray.mk (List.toArray [(115:UInt8),(105:UInt8),(122:UInt8),(101:UInt8),(32:UInt8)]))++r0))))
 (brE (qt6==9)
 ((quoP qt7).bind fun r0 =>
 (brE (decide (((((ByteArray.size (ByteArray.mk (List.toArray [(101:UInt8),(120:UInt8),(105:UInt8),(115:UInt8),(116:UInt8),(115:UInt8),(32:UInt8)])))+r0.size):Nat):Int)>(Go.IntKind.max Go.IntKind.i64)))
 none
 (some ((ByteArray.mk (List.toArray [(101:UInt8),(120:UInt8),(105:UInt8),(115:UInt8),(116:UInt8),(115:UInt8),(32:UInt8)]))++r0))))
 (some (ByteArray.mk (List.toArray [(116:UInt8),(114:UInt8),(117:UInt8),(101:UInt8)])))))))))))
theorem qk8 {qt6 qt9 qt7 qt8 qta t_N r} (h:qka qt6 qt9 qt7 qt8 qta t_N=some r):qk9 qt6 qt9 qt7 qt8 qta t_N=some r :=
 q6x (es:=qth) (hs:=q97) [] Tryz.func62 rfl (by kernel_rfl) rfl (by kernel_rfl) (by kernel_rfl) trivial trivial (by kernel_rfl) h
abbrev z2a:=(qah z29 (qah z29 (qah (vC (cSl q5k)) (qah (vC cStr) (qah z29 (qah (vC cStr) (qah z29 (qah (vC (cSl q5l)) (qah (vC (cSl q5l)) (qah z29 (qah (vC cStr) (qah (vC cStr) (qaj z29)))))))))))))
def qj1:=(qah (vAgg z2a) (qaj z29))
def qj2:Cod (V×List B) ByteArray:=z2c
def qjq (r_Kind r_Test_Kind:Int) (qfz:L57) (qfx:BA) (qfy:Int) (qg0:BA) (qfw:Int) (r_Then r_Else:L59) (r_Act:Int) (qfv qg1:BA) (r_N depth:Int):=fS Tryz.prog lv X0 48 qj1 qj2 ((r_Kind,r_Test_Kind,qfz,qfx,qfy,qg0,qfw,r_Then,r_Else,r_Act,qfv,qg1,r_N),depth)
def qj3:=entS Tryz.prog lv X0 48 [] qj1 qj2 (fun x=>qjq x.1.1 x.1.2.1 x.1.2.2.1 x.1.2.2.2.1 x.1.2.2.2.2.1 x.1.2.2.2.2.2.1 x.1.2.2.2.2.2.2.1 x.1.2.2.2.2.2.2.2.1 x.1.2.2.2.2.2.2.2.2.1 x.1.2.2.2.2.2.2.2.2.2.1 x.1.2.2.2.2.2.2.2.2.2.2.1 x.1.2.2.2.2.2.2.2.2.2.2.2.1 x.1.2.2.2.2.2.2.2.2.2.2.2.2 x.2) (fun _ _ h=>q6w h)
def qts:=qj3::qth
def qjs:=(qah (vC (cSl q5l)) (qaj z29))
def qk1:=sLS [1,5,8,9,10] (qah z29 (qah (vC cStr) (qah (vC (cSl q5l)) (qah z29 (qaj z29))))) qai [] [] (by decide) (fun _=>rfl)
def qk0:=sLS [1,5,8,9,10,11] (qah z29 (qah (vC cStr) (qah (vC (cSl q5l)) (qah z29 (qah z29 (qaj (vC cBool))))))) qai [] [] (by decide) (fun _=>rfl)
def qjz:=oAt 2 qk0
def qjw (depth:Int) (out:BA) (t8:L59) (t9 t10:Int):=lS Tryz.prog lv X0 28 21 (q8l (cdF Tryz.f28) 3) qk1 qjz ((depth,out,t8,t9,t10),())
abbrev z1e (t8:L59) (t10:Int):=(List.getD (EC.encL q5l t8) (Int.toNat t10) [])
def qk2 (depth:Int) (out:BA) (t8:L59) (t9 t10:Int):Oq ((Int×BA×L59×Int×Int×Bool)×Unit) :=
 (brE (decide (t10<t9))
 (gdE (p0 t10)<|
 (gdE (eC q5l t8 t10 [(K1.int Go.IntKind.i64),(K1.int Go.IntKind.i64),K1.sl,K1.str,(K1.int Go.IntKind.i64),K1.str,(K1.int Go.IntKind.i64),K1.sl,K1.sl,(K1.int Go.IntKind.i64),K1.str,K1.str,(K1.int Go.IntKind.i64)])<|
 (gdE (EC.isL q5k (slOf (List.getD (z1e t8 t10) 2 C.ne)))<|
 (gdE (EC.isL q5l (slOf (List.getD (z1e t8 t10) 7 C.ne)))<|
 (gdE (EC.isL q5l (slOf (List.getD (z1e t8 t10) 8 C.ne)))<|
 ((qjq (q9n (List.getD (z1e t8 t10) 0 C.ne)) (q9n (List.getD (z1e t8 t10) 1 C.ne)) (uL q5k (List.getD (z1e t8 t10) 2 C.ne)) (qss (List.getD (z1e t8 t10) 3 C.ne)) (q9n (List.getD (z1e t8 t10) 4 C.ne)) (qss (List.getD (z1e t8 t10) 5 C.ne)) (q9n (List.getD (z1e t8 t10) 6 C.ne)) (uL q5l (List.getD (z1e t8 t10) 7 C.ne)) (uL q5l (List.getD (z1e t8 t10) 8 C.ne)) (q9n (List.getD (z1e t8 t10) 9 C.ne)) (qss (List.getD (z1e t8 t10) 10 C.ne)) (qss (List.getD (z1e t8 t10) 11 C.ne)) (q9n (List.getD (z1e t8 t10) 12 C.ne)) depth).bind fun r0 =>
 (brE (decide ((((out.size+r0.size):Nat):Int)>(Go.IntKind.max Go.IntKind.i64)))
 none
 (gL q5l t8<|
 (qjw depth (out++r0) (dL q5l t8) t9 (wI t10))))))))))
 (gL q5l t8<|
 (some ((depth,(out,((dL q5l t8),(t9,(t10,false))))),()))))
theorem qjy {depth out t8 t9 t10 r} (h:qk2 depth out t8 t9 t10=some r):qjw depth out t8 t9 t10=some r :=
 qal (es:=qts) (hs:=q97) [] (by kernel_rfl) trivial trivial (by kernel_rfl) h
def qjx:=qb9 Tryz.prog lv X0 3 (q8l (cdF Tryz.f28) 3) qk1 qjz (fun x=>qjw x.1.1 x.1.2.1 x.1.2.2.1 x.1.2.2.2.1 x.1.2.2.2.2) (fun _ _ h=>qak h)
def qjt:Cod (V×List B) ByteArray:=z2c
def qk3 (s:L59) (depth:Int):=fS Tryz.prog lv X0 28 qjs qjt (s,depth)
def qk4 (s:L59) (depth:Int):Oq BA :=
 (gL q5l s<|
 ((qjw depth ⟨#[]⟩ (dL q5l s) (lN q5l s:Int) 0).bind fun r0 =>
 (some r0.1.2.1)))
theorem qjv {s depth r} (h:qk4 s depth=some r):qk3 s depth=some r :=
 q6x (es:=qts) (hs:=q97) [qjx] Tryz.func28 rfl (by kernel_rfl) rfl (by kernel_rfl) (by kernel_rfl) ⟨⟨_,rfl,rfl⟩,trivial⟩ trivial (by kernel_rfl) h
def qju:=entS Tryz.prog lv X0 28 [] qjs qjt (fun x=>qk3 x.1 x.2) (fun _ _ h=>q6w h)
def qtt:=qju::qts
def qjo:=sLS [6] z2d qai [] [] (by decide) (fun _=>rfl)
def qjn:=sLS [4] z2d qai [] [] (by decide) (fun _=>rfl)
def qjm:=oAt 1 qjn
def qjj (out:BA):=gS Tryz.prog lv X0 48 91 (q8m (cdF Tryz.f48) 7) qjo qjm (out,())
def qjp (out:BA):Oq (BA×Unit) :=
 (brE (decide ((((out.size+(ByteArray.size (ByteArray.mk (List.toArray [(10:UInt8)])))):Nat):Int)>(Go.IntKind.max Go.IntKind.i64)))
 none
 (some ((out++(ByteArray.mk (List.toArray [(10:UInt8)]))),())))
theorem qjl {out r} (h:qjp out=some r):qjj out=some r :=
 q8f (es:=qtt) (hs:=q97) [] (by kernel_rfl) trivial trivial (by kernel_rfl) h
def qjk:=gentS Tryz.prog lv X0 7 (q8m (cdF Tryz.f48) 7) (by kernel_rfl) qjo qjm (fun x=>qjj x.1) (fun _ _ h=>q8e h)
def qjh:=sLS [7] z2d qai [] [] (by decide) (fun _=>rfl)
def qjg:=sLS [4] z2d qai [] [] (by decide) (fun _=>rfl)
def qjf:=oAt 1 qjg
def qjc (out:BA):=gS Tryz.prog lv X0 48 91 (q8m (cdF Tryz.f48) 17) qjh qjf (out,())
def qji (out:BA):Oq (BA×Unit) :=
 (brE (decide ((((out.size+(ByteArray.size (ByteArray.mk (List.toArray [(59:UInt8),(10:UInt8)])))):Nat):Int)>(Go.IntKind.max Go.IntKind.i64)))
 none
 (some ((out++(ByteArray.mk (List.toArray [(59:UInt8),(10:UInt8)]))),())))
theorem qje {out r} (h:qji out=some r):qjc out=some r :=
 q8f (es:=qtt) (hs:=q97) [] (by kernel_rfl) trivial trivial (by kernel_rfl) h
def qjd:=gentS Tryz.prog lv X0 17 (q8m (cdF Tryz.f48) 17) (by kernel_rfl) qjh qjf (fun x=>qjc x.1) (fun _ _ h=>q8e h)
def qja:=sLS [2,7] (qah (vPtr 0 0) z2d) (qaj (qd1 (bBox z2a))) [false] [] (by decide) (fun _=>rfl)
def qj9:=sLS [4] z2d qai [] [] (by decide) (fun _=>rfl)
def qj8:=oAt 1 qj9
def qj5 (out:BA) (b0 b0_1:Int) (b0_2:L57) (b0_3:BA) (b0_4:Int) (b0_5:BA) (b0_6:Int) (b0_7 b0_8:L59) (b0_9:Int) (b0_10 b0_11:BA) (b0_12:Int):=gS Tryz.prog lv X0 48 91 (q8m (cdF Tryz.f48) 15) qja qj8 (((),out),(b0,b0_1,b0_2,b0_3,b0_4,b0_5,b0_6,b0_7,b0_8,b0_9,b0_10,b0_11,b0_12))
def qjb (out:BA) (b0 b0_1:Int) (b0_2:L57) (b0_3:BA) (b0_4:Int) (b0_5:BA) (b0_6:Int) (b0_7 b0_8:L59) (b0_9:Int) (b0_10 b0_11:BA) (b0_12:Int):Oq (BA×Unit) :=
 (brE (b0_9==6)
 ((itoaP b0_12).bind fun r0 =>
 (brE (decide (((((ByteArray.size (ByteArray.mk (List.toArray [(32:UInt8)])))+r0.size):Nat):Int)>(Go.IntKind.max Go.IntKind.i64)))
 none
 (brE (decide ((((out.size+(ByteArray.size ((ByteArray.mk (List.toArray [(32:UInt8)]))++r0))):Nat):Int)>(Go.IntKind.max Go.IntKind.i64)))
 none
 ((qjc (out++((ByteArray.mk (List.toArray [(32:UInt8)]))++r0))).bind fun r1 =>
 (some (r1.1,()))))))
 ((qjc out).bind fun r0 =>
 (some (r0.1,()))))
theorem qj7 {out b0 b0_1 b0_2 b0_3 b0_4 b0_5 b0_6 b0_7 b0_8 b0_9 b0_10 b0_11 b0_12 r} (h:qjb out b0 b0_1 b0_2 b0_3 b0_4 b0_5 b0_6 b0_7 b0_8 b0_9 b0_10 b0_11 b0_12=some r):qj5 out b0 b0_1 b0_2 b0_3 b0_4 b0_5 b0_6 b0_7 b0_8 b0_9 b0_10 b0_11 b0_12=some r :=
 q8f (es:=qtt) (hs:=q97) [qjd] (by kernel_rfl) trivial ⟨⟨_,rfl,rfl⟩,trivial⟩ (by kernel_rfl) h
def qj6:=gentS Tryz.prog lv X0 15 (q8m (cdF Tryz.f48) 15) (by kernel_rfl) qja qj8 (fun x=>qj5 x.1.2 x.2.1 x.2.2.1 x.2.2.2.1 x.2.2.2.2.1 x.2.2.2.2.2.1 x.2.2.2.2.2.2.1 x.2.2.2.2.2.2.2.1 x.2.2.2.2.2.2.2.2.1 x.2.2.2.2.2.2.2.2.2.1 x.2.2.2.2.2.2.2.2.2.2.1 x.2.2.2.2.2.2.2.2.2.2.2.1 x.2.2.2.2.2.2.2.2.2.2.2.2.1 x.2.2.2.2.2.2.2.2.2.2.2.2.2) (fun _ _ h=>q8e h)
abbrev z1f (r_Act:Int):=(Int.toNat (IntKind.wrap .i64 (r_Act - 1)))
def qjr (r_Kind r_Test_Kind:Int) (qfz:L57) (qfx:BA) (qfy:Int) (qg0:BA) (qfw:Int) (r_Then r_Else:L59) (r_Act:Int) (qfv qg1:BA) (r_N depth:Int):Oq BA :=
 ((repP (ByteArray.mk (List.toArray [(32:UInt8),(32:UInt8)])) depth).bind fun r0 =>
 (brE (r_Kind==1)
 (brE (decide ((((r0.size+(ByteArray.size (ByteArray.mk (List.toArray [(105:UInt8),(102:UInt8),(32:UInt8)])))):Nat):Int)>(Go.IntKind.max Go.IntKind.i64)))
 none
 (gL q5k qfz<|
 ((qk9 r_Test_Kind (dL q5k qfz) qfx qfy qg0 qfw).bind fun r1 =>
 (brE (decide (((((ByteArray.size (r0++(ByteArray.mk (List.toArray [(105:UInt8),(102:UInt8),(32:UInt8)]))))+r1.size):Nat):Int)>(Go.IntKind.max Go.IntKind.i64)))
 none
 (brE (decide (((((ByteArray.size ((r0++(ByteArray.mk (List.toArray [(105:UInt8),(102:UInt8),(32:UInt8)])))++r1))+(ByteArray.size (ByteArray.mk (List.toArray [(32:UInt8),(123:UInt8),(10:UInt8)])))):Nat):Int)>(Go.IntKind.max Go.IntKind.i64)))
 none
 (gL q5l r_Then<|
 ((qk3 (dL q5l r_Then) (wI depth)).bind fun r2 =>
 (brE (decide (((((ByteArray.size (((r0++(ByteArray.mk (List.toArray [(105:UInt8),(102:UInt8),(32:UInt8)])))++r1)++(ByteArray.mk (List.toArray [(32:UInt8),(123:UInt8),(10:UInt8)]))))+r2.size):Nat):Int)>(Go.IntKind.max Go.IntKind.i64)))
 none
 (brE (decide (((((ByteArray.size ((((r0++(ByteArray.mk (List.toArray [(105:UInt8),(102:UInt8),(32:UInt8)])))++r1)++(ByteArray.mk (List.toArray [(32:UInt8),(123:UInt8),(10:UInt8)])))++r2))+r0.size):Nat):Int)>(Go.IntKind.max Go.IntKind.i64)))
 none
 (brE (decide (((((ByteArray.size (((((r0++(ByteArray.mk (List.toArray [(105:UInt8),(102:UInt8),(32:UInt8)])))++r1)++(ByteArray.mk (List.toArray [(32:UInt8),(123:UInt8),(10:UInt8)])))++r2)++r0))+(ByteArray.size (ByteArray.mk (List.toArray [(125:UInt8)])))):Nat):Int)>(Go.IntKind.max Go.IntKind.i64)))
 none
 (brE (decide ((lN q5l r_Else:Int)>0))
 (gL q5l r_Else<|
 ((qk3 (dL q5l r_Else) (wI depth)).bind fun r3 =>
 (brE (decide (((((ByteArray.size (ByteArray.mk (List.toArray [(32:UInt8),(101:UInt8),(108:UInt8),(115:UInt8),(101:UInt8),(32:UInt8),(123:UInt8),(10:UInt8)])))+r3.size):Nat):Int)>(Go.IntKind.max Go.IntKind.i64)))
 none
 (brE (decide (((((ByteArray.size ((ByteArray.mk (List.toArray [(32:UInt8),(101:UInt8),(108:UInt8),(115:UInt8),(101:UInt8),(32:UInt8),(123:UInt8),(10:UInt8)]))++r3))+r0.size):Nat):Int)>(Go.IntKind.max Go.IntKind.i64)))
 none
 (brE (decide (((((ByteArray.size (((ByteArray.mk (List.toArray [(32:UInt8),(101:UInt8),(108:UInt8),(115:UInt8),(101:UInt8),(32:UInt8),(123:UInt8),(10:UInt8)]))++r3)++r0))+(ByteArray.size (ByteArray.mk (List.toArray [(125:UInt8)])))):Nat):Int)>(Go.IntKind.max Go.IntKind.i64)))
 none
 (brE (decide (((((ByteArray.size ((((((r0++(ByteArray.mk (List.toArray [(105:UInt8),(102:UInt8),(32:UInt8)])))++r1)++(ByteArray.mk (List.toArray [(32:UInt8),(123:UInt8),(10:UInt8)])))++r2)++r0)++(ByteArray.mk (List.toArray [(125:UInt8)]))))+(ByteArray.size ((((ByteArray.mk (List.toArray [(32:UInt8),(101:UInt8),(108:UInt8),(115:UInt8),(101:UInt8),(32:UInt8),(123:UInt8),(10:UInt8)]))++r3)++r0)++(ByteArray.mk (List.toArray [(125:UInt8)]))))):Nat):Int)>(Go.IntKind.max Go.IntKind.i64)))
 none
 (Option.bind (qjj (((((((r0++(ByteArray.mk (List.toArray [(105:UInt8),(102:UInt8),(32:UInt8)])))++r1)++(ByteArray.mk (List.toArray [(32:UInt8),(123:UInt8),(10:UInt8)])))++r2)++r0)++(ByteArray.mk (List.toArray [(125:UInt8)])))++((((ByteArray.mk (List.toArray [(32:UInt8),(101:UInt8),(108:UInt8),(115:UInt8),(101:UInt8),(32:UInt8),(123:UInt8),(10:UInt8)]))++r3)++r0)++(ByteArray.mk (List.toArray [(125:UInt8)]))))) fun r4 =>
 (some r4.1))))))))
 (Option.bind (qjj ((((((r0++(ByteArray.mk (List.toArray [(105:UInt8),(102:UInt8),(32:UInt8)])))++r1)++(ByteArray.mk (List.toArray [(32:UInt8),(123:UInt8),(10:UInt8)])))++r2)++r0)++(ByteArray.mk (List.toArray [(125:UInt8)])))) fun r3 =>
 (some r3.1)))))))))))))
 (brE (r_Kind==3)
 (brE (decide ((((r0.size+(ByteArray.size (ByteArray.mk (List.toArray [(115:UInt8),(101:UInt8),(116:UInt8),(32:UInt8)])))):Nat):Int)>(Go.IntKind.max Go.IntKind.i64)))
 none
 (brE (decide (((((ByteArray.size (r0++(ByteArray.mk (List.toArray [(115:UInt8),(101:UInt8),(116:UInt8),(32:UInt8)]))))+qfv.size):Nat):Int)>(Go.IntKind.max Go.IntKind.i64)))
 none
 (brE (decide (((((ByteArray.size ((r0++(ByteArray.mk (List.toArray [(115:UInt8),(101:UInt8),(116:UInt8),(32:UInt8)])))++qfv))+(ByteArray.size (ByteArray.mk (List.toArray [(32:UInt8)])))):Nat):Int)>(Go.IntKind.max Go.IntKind.i64)))
 none
 ((quoP qg1).bind fun r1 =>
 (brE (decide (((((ByteArray.size (((r0++(ByteArray.mk (List.toArray [(115:UInt8),(101:UInt8),(116:UInt8),(32:UInt8)])))++qfv)++(ByteArray.mk (List.toArray [(32:UInt8)]))))+r1.size):Nat):Int)>(Go.IntKind.max Go.IntKind.i64)))
 none
 (brE (decide (((((ByteArray.size ((((r0++(ByteArray.mk (List.toArray [(115:UInt8),(101:UInt8),(116:UInt8),(32:UInt8)])))++qfv)++(ByteArray.mk (List.toArray [(32:UInt8)])))++r1))+(ByteArray.size (ByteArray.mk (List.toArray [(59:UInt8),(10:UInt8)])))):Nat):Int)>(Go.IntKind.max Go.IntKind.i64)))
 none
 (some (((((r0++(ByteArray.mk (List.toArray [(115:UInt8),(101:UInt8),(116:UInt8),(32:UInt8)])))++qfv)++(ByteArray.mk (List.toArray [(32:UInt8)])))++r1)++(ByteArray.mk (List.toArray [(59:UInt8),(10:UInt8)]))))))))))
 (brE (r_Kind==4)
 (brE (decide ((((r0.size+(ByteArray.size (ByteArray.mk (List.toArray [(115:UInt8),(116:UInt8),(111:UInt8),(112:UInt8),(59:UInt8),(10:UInt8)])))):Nat):Int)>(Go.IntKind.max Go.IntKind.i64)))
 none
 (some (r0++(ByteArray.mk (List.toArray [(115:UInt8),(116:UInt8),(111:UInt8),(112:UInt8),(59:UInt8),(10:UInt8)])))))
 (Option.bind qia fun r1 =>
 (gdE (((p0 (IntKind.wrap .i64 (r_Act - 1)))&&(decide ((IntKind.wrap .i64 (r_Act - 1))<((7:Nat):Int))))&&(decide ((z1f r_Act)<(List.length [r1.1,r1.2.1,r1.2.2.1,r1.2.2.2.1,r1.2.2.2.2.1,r1.2.2.2.2.2.1,r1.2.2.2.2.2.2]))))<|
 (brE (decide ((((r0.size+(ByteArray.size (List.getD [r1.1,r1.2.1,r1.2.2.1,r1.2.2.2.1,r1.2.2.2.2.1,r1.2.2.2.2.2.1,r1.2.2.2.2.2.2] (z1f r_Act) ByteArray.empty))):Nat):Int)>(Go.IntKind.max Go.IntKind.i64)))
 none
 ((qq1 r_Act).bind fun r2 =>
 (brE r2
 ((quoP qg1).bind fun r3 =>
 (brE (decide (((((ByteArray.size (ByteArray.mk (List.toArray [(32:UInt8)])))+r3.size):Nat):Int)>(Go.IntKind.max Go.IntKind.i64)))
 none
 (brE (decide (((((ByteArray.size (r0++(List.getD [r1.1,r1.2.1,r1.2.2.1,r1.2.2.2.1,r1.2.2.2.2.1,r1.2.2.2.2.2.1,r1.2.2.2.2.2.2] (z1f r_Act) ByteArray.empty)))+(ByteArray.size ((ByteArray.mk (List.toArray [(32:UInt8)]))++r3))):Nat):Int)>(Go.IntKind.max Go.IntKind.i64)))
 none
 (gL q5k qfz<|
 (gL q5l r_Then<|
 (gL q5l r_Else<|
 (Option.bind (qj5 ((r0++(List.getD [r1.1,r1.2.1,r1.2.2.1,r1.2.2.2.1,r1.2.2.2.2.1,r1.2.2.2.2.2.1,r1.2.2.2.2.2.2] (z1f r_Act) ByteArray.empty))++((ByteArray.mk (List.toArray [(32:UInt8)]))++r3)) r_Kind r_Test_Kind (dL q5k qfz) qfx qfy qg0 qfw (dL q5l r_Then) (dL q5l r_Else) r_Act qfv qg1 r_N) fun r4 =>
 (some r4.1))))))))
 (gL q5k qfz<|
 (gL q5l r_Then<|
 (gL q5l r_Else<|
 ((qj5 (r0++(List.getD [r1.1,r1.2.1,r1.2.2.1,r1.2.2.2.1,r1.2.2.2.2.1,r1.2.2.2.2.2.1,r1.2.2.2.2.2.2] (z1f r_Act) ByteArray.empty)) r_Kind r_Test_Kind (dL q5k qfz) qfx qfy qg0 qfw (dL q5l r_Then) (dL q5l r_Else) r_Act qfv qg1 r_N).bind fun r3 =>
 (some r3.1))))))))))))))
theorem qj4 {r_Kind r_Test_Kind qfz qfx qfy qg0 qfw r_Then r_Else r_Act qfv qg1 r_N depth r} (h:qjr r_Kind r_Test_Kind qfz qfx qfy qg0 qfw r_Then r_Else r_Act qfv qg1 r_N depth=some r):qjq r_Kind r_Test_Kind qfz qfx qfy qg0 qfw r_Then r_Else r_Act qfv qg1 r_N depth=some r :=
 q6x (es:=qtt) (hs:=q97) [qjk,qj6] Tryz.func48 rfl (by kernel_rfl) rfl (by kernel_rfl) (by kernel_rfl) trivial ⟨⟨_,rfl,rfl⟩,⟨_,rfl,rfl⟩,trivial⟩ (by kernel_rfl) h
def qh7:=(qaj (vC (cSl q5l)))
def qh8:Cod (V×List B) (ByteArray×(Int×Int)):=(cFstU (cPair (vTup (qah (vC cStr) (qaj (vAgg (qah z29 (qaj z29)))))) qai))
def qhb (s:L59):=fS Tryz.prog lv X0 12 qh7 qh8 s
def qhc (s:L59):Oq (BA×(Int×Int)) :=
 (gL q5l s<|
 ((qi4 (dL q5l s)).bind fun r0 =>
 ((q2w r0.1 r0.2).bind fun r1 =>
 (brE r1
 (some (⟨#[]⟩,(r0.1,r0.2)))
 (gL q5l s<|
 ((qk3 (dL q5l s) 0).bind fun r2 =>
 (brE (decide ((r2.size:Int)>4000))
 ((q32 1 (-1)).bind fun r3 =>
 (some (⟨#[]⟩,(r3.1,r3.2))))
 (Option.bind q38 fun r3 =>
 (some (r2,(r3.1,r3.2)))))))))))
theorem qha {s r} (h:qhc s=some r):qhb s=some r :=
 q6x (es:=qtt) (hs:=q97) [] Tryz.func12 rfl (by kernel_rfl) rfl (by kernel_rfl) (by kernel_rfl) trivial trivial (by kernel_rfl) h
def qh9:=entS Tryz.prog lv X0 12 [] qh7 qh8 (fun x=>qhb x) (fun _ _ h=>q6w h)
def qtl:=qh9::qtt
end
set_option maxRecDepth 100000
noncomputable section
end
end Go.Proofs.YtognhcibcocbkaaGreatDoor
