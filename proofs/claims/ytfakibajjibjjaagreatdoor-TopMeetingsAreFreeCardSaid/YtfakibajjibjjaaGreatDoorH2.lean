/- Functions of the program as plain functions: made by program from the machine. -/
import Derived.Test.YtfakibajjibjjaaGreatDoorGU
namespace Go.Proofs.YtfakibajjibjjaaGreatDoor
set_option linter.unusedSimpArgs false
open Go.RowKit
set_option maxRecDepth 100000
noncomputable section
def q4s:=(qni (vC (cInt .i64)) (qnk (vC (cInt .i64))))
def q4t:Cod (V×List B) (Int×Int):=(cFstU (cPair (vAgg (qni (vC (cInt .i64)) (qnk (vC (cInt .i64))))) qnj))
def q4w (code:Int) (at_:Int):Option (Int×Int):=fS Tryz.prog lv X1 13 q4s q4t (code,at_)
def q4x (code:Int) (at_:Int):Option (Int×Int) :=
 (some (code,at_))
theorem q4v {code at_ r} (h:q4x code at_=some r):q4w code at_=some r :=
 qf4 (es:=tab1) (hs:=[]) [] Tryz.func13 rfl (by kernel_rfl) rfl (by kernel_rfl) (by kernel_rfl) trivial trivial (by kernel_rfl) h
def q4u:=entS Tryz.prog lv X1 13 [] q4s q4t (fun x=>q4w x.1 x.2) (fun _ _ h=>qf3 h)
def q115:=q4u::tab1
def q4y:Cod (List V) Unit:=qnj
def q4z:Cod (V×List B) (Int×Int):=(cFstU (cPair (vAgg (qni (vC (cInt .i64)) (qnk (vC (cInt .i64))))) qnj))
def q52 :Option (Int×Int):=fS Tryz.prog lv X1 19 q4y q4z ()
def q53 :Option (Int×Int) :=
 (some (0,0))
theorem q51 {r} (h:q53 =some r):q52 =some r :=
 qf4 (es:=q115) (hs:=[]) [] Tryz.func19 rfl (by kernel_rfl) rfl (by kernel_rfl) (by kernel_rfl) trivial trivial (by kernel_rfl) h
def q50:=entS Tryz.prog lv X1 19 [] q4y q4z (fun x=>q52 ) (fun _ _ h=>qf3 h)
def q116:=q50::q115
def q4m:=(qnk (vAgg (qni (vC (cInt .i64)) (qnk (vC (cInt .i64))))))
def q4n:Cod (V×List B) Bool:=(cFstU (cPair (vC cBool) qnj))
def q4q (f_Code:Int) (f_Index:Int):Option Bool:=fS Tryz.prog lv X1 15 q4m q4n (f_Code,f_Index)
def q4r (f_Code:Int) (f_Index:Int):Option Bool :=
 (some (f_Code != 0))
theorem q4p {f_Code f_Index r} (h:q4r f_Code f_Index=some r):q4q f_Code f_Index=some r :=
 qf4 (es:=q116) (hs:=[]) [] Tryz.func15 rfl (by kernel_rfl) rfl (by kernel_rfl) (by kernel_rfl) trivial trivial (by kernel_rfl) h
def q4o:=entS Tryz.prog lv X1 15 [] q4m q4n (fun x=>q4q x.1 x.2) (fun _ _ h=>qf3 h)
def q114:=q4o::q116
def q54:=(qnk (vC (cInt .i64)))
def q55:Cod (V×List B) Bool:=(cFstU (cPair (vC cBool) qnj))
def q58 (t:Int):Option Bool:=fS Tryz.prog lv X1 42 q54 q55 t
def q59 (t:Int):Option Bool :=
 (brE ((decide (t≥(-68719476736)))==true)
 (some (decide (t≤68719476736)))
 (some false))
theorem q57 {t r} (h:q59 t=some r):q58 t=some r :=
 qf4 (es:=q114) (hs:=[]) [] Tryz.func42 rfl (by kernel_rfl) rfl (by kernel_rfl) (by kernel_rfl) trivial trivial (by kernel_rfl) h
def q56:=entS Tryz.prog lv X1 42 [] q54 q55 (fun x=>q58 x) (fun _ _ h=>qf3 h)
def q117:=q56::q114
def qhj:=(qnk (vC (cSl qde)))
def qht:=sLS [2,9,10,11] (qni (vPtr 0 0) (qni (vC (cSl qde)) (qni (vC (cInt .i64)) (qnk (vC (cInt .i64)))))) (qnk (qt8 (bBox (qni (vC (cInt .i64)) (qnk (vC (cInt .i64))))))) [false] [] (by decide) (fun _=>rfl)
def qhs:=sLS [2,9,10,11,12] (qni (vPtr 0 0) (qni (vC (cSl qde)) (qni (vC (cInt .i64)) (qni (vC (cInt .i64)) (qnk (vC cBool)))))) (qnk (qt8 (bBox (qni (vC (cInt .i64)) (qnk (vC (cInt .i64))))))) [false] [] (by decide) (fun _=>rfl)
def qhr:=sLS [2] (qnk (vPtr 0 0)) (qnk (qt8 (bBox (qni (vC (cInt .i64)) (qnk (vC (cInt .i64))))))) [false] [] (by decide) (fun _=>rfl)
def qhq:=oOr 1 qhr (oAt 2 qhs) (fun x=>(by decide:(2:Nat)≠1))
def qhn (t9:(List S24)) (t10:Int) (t11:Int) (b0:Int) (b0_1:Int):Option ((Unit×(Int×Int))⊕((Unit×(List S24)×Int×Int×Bool)×(Int×Int))):=lS Tryz.prog lv X1 20 37 (qix (cdF Tryz.f20) 4) qht qhq (((),t9,t10,t11),(b0,b0_1))
def qhu (t9:(List S24)) (t10:Int) (t11:Int) (b0:Int) (b0_1:Int):Option ((Unit×(Int×Int))⊕((Unit×(List S24)×Int×Int×Bool)×(Int×Int))) :=
 (brE (decide (t11<t10))
 (gdE (decide (0≤t11))<|
 (gdE ((decide ((Int.toNat t11)<(List.length (EC.encL qde t9))))&&(isE [(K1.int Go.IntKind.i64),(K1.int Go.IntKind.i64)] 0 (List.getD (EC.encL qde t9) (Int.toNat t11) [])))<|
 ((q58 (qm6 (List.getD (List.getD (EC.encL qde t9) (Int.toNat t11) []) 0 C.ne))).bind fun r0 =>
 (brE ((!r0)==false)
 ((q58 (qm6 (List.getD (List.getD (EC.encL qde t9) (Int.toNat t11) []) 1 C.ne))).bind fun r1 =>
 (brE (!r1)
 ((q4w 3 t11).bind fun r2 =>
 (some (.inl ((),(r2.1,r2.2)))))
 (brE (decide ((qm6 (List.getD (List.getD (EC.encL qde t9) (Int.toNat t11) []) 0 C.ne))>(qm6 (List.getD (List.getD (EC.encL qde t9) (Int.toNat t11) []) 1 C.ne))))
 ((q4w 19 t11).bind fun r2 =>
 (some (.inl ((),(r2.1,r2.2)))))
 (gdE (EC.isL qde (EC.encL qde t9))<|
 (qhn (EC.decL qde (EC.encL qde t9)) t10 (IntKind.wrap .i64 (t11+1)) b0 b0_1)))))
 ((q4w 3 t11).bind fun r1 =>
 (some (.inl ((),(r1.1,r1.2)))))))))
 (gdE (EC.isL qde (EC.encL qde t9))<|
 (some (.inr (((),((EC.decL qde (EC.encL qde t9)),(t10,(t11,false)))),(b0,b0_1))))))
theorem qhp {t9 t10 t11 b0 b0_1 r} (h:qhu t9 t10 t11 b0 b0_1=some r):qhn t9 t10 t11 b0 b0_1=some r :=
 qnm (es:=q117) (hs:=[]) [] (by kernel_rfl) trivial trivial (by kernel_rfl) h
def qho:=qp9 Tryz.prog lv X1 4 (qix (cdF Tryz.f20) 4) qht qhq (fun x=>qhn x.1.2.1 x.1.2.2.1 x.1.2.2.2 x.2.1 x.2.2) (fun _ _ h=>qnl h)
def qhk:Cod (V×List B) (Int×Int):=(cFstU (cPair (vAgg (qni (vC (cInt .i64)) (qnk (vC (cInt .i64))))) qnj))
def qhv (l:(List S24)):Option (Int×Int):=fS Tryz.prog lv X1 20 qhj qhk l
def qhw (l:(List S24)):Option (Int×Int) :=
 (brE (decide ((List.length (EC.encL qde l):Int)>500))
 ((q4w 2 (-1)).bind fun r0 =>
 (some (r0.1,r0.2)))
 (gdE (EC.isL qde (EC.encL qde l))<|
 ((qhn (EC.decL qde (EC.encL qde l)) (List.length (EC.encL qde l):Int) 0 0 0).bind fun r0 =>
 (Sum.elim (fun r1=>(some (r1.2.1,r1.2.2)))
 (fun r1=>(Option.bind q52 fun r2 =>
 (some (r2.1,r2.2)))) r0))))
theorem qhm {l r} (h:qhw l=some r):qhv l=some r :=
 qf4 (es:=q117) (hs:=[]) [qho] Tryz.func20 rfl (by kernel_rfl) rfl (by kernel_rfl) (by kernel_rfl) ⟨⟨_,rfl,rfl⟩,trivial⟩ trivial (by kernel_rfl) h
def qhl:=entS Tryz.prog lv X1 20 [] qhj qhk (fun x=>qhv x) (fun _ _ h=>qf3 h)
def q11v:=qhl::q117
def qia:=(qni (vC (cInt .i64)) (qnk (vC (cInt .i64))))
def qib:Cod (V×List B) (Int×Int):=(cFstU (cPair (vAgg (qni (vC (cInt .i64)) (qnk (vC (cInt .i64))))) qnj))
def qie (from_:Int) (to_:Int):Option (Int×Int):=fS Tryz.prog lv X1 14 qia qib (from_,to_)
def qif (from_:Int) (to_:Int):Option (Int×Int) :=
 ((q58 from_).bind fun r0 =>
 (brE ((!r0)==false)
 ((q58 to_).bind fun r1 =>
 (brE (!r1)
 ((q4w 3 (-2)).bind fun r2 =>
 (some (r2.1,r2.2)))
 (brE (decide (from_>to_))
 ((q4w 19 (-2)).bind fun r2 =>
 (some (r2.1,r2.2)))
 (Option.bind q52 fun r2 =>
 (some (r2.1,r2.2))))))
 ((q4w 3 (-2)).bind fun r1 =>
 (some (r1.1,r1.2)))))
theorem qid {from_ to_ r} (h:qif from_ to_=some r):qie from_ to_=some r :=
 qf4 (es:=q11v) (hs:=[]) [] Tryz.func14 rfl (by kernel_rfl) rfl (by kernel_rfl) (by kernel_rfl) trivial trivial (by kernel_rfl) h
def qic:=entS Tryz.prog lv X1 14 [] qia qib (fun x=>qie x.1 x.2) (fun _ _ h=>qf3 h)
def q11x:=qic::q11v
def qhx:=(qni (vC (cSl qde)) (qni (vC (cInt .i64)) (qni (vC (cInt .i64)) (qnk (vC (cInt .i64))))))
def qi6:=sLS [2,3,9,10,21,22,23] (qni (vC (cInt .i64)) (qni (vC (cInt .i64)) (qni (vRow 0) (qni (vC (cInt .i64)) (qni (vRow 1) (qni (vC (cInt .i64)) (qnk (vC (cInt .i64))))))))) (qni (qt8 (bRow qde)) (qnk (qt8 (bRow qde)))) [false,false] [] (by decide) (fun _=>rfl)
def qi5:=sLS [2,3,9,10,21,22,23,24] (qni (vC (cInt .i64)) (qni (vC (cInt .i64)) (qni (vRow 0) (qni (vC (cInt .i64)) (qni (vRow 1) (qni (vC (cInt .i64)) (qni (vC (cInt .i64)) (qnk (vC cBool))))))))) (qni (qt8 (bRow qde)) (qnk (qt8 (bRow qde)))) [false,false] [] (by decide) (fun _=>rfl)
def qi4:=oAt 2 qi5
def qi1 (to_:Int) (length:Int) (out:Nat) (at_:Int) (t21:Nat) (t22:Int) (t23:Int) (b0:(List S24)) (b1:(List S24)):Option ((Int×Int×Nat×Int×Nat×Int×Int×Bool)×((List S24)×(List S24))):=lS Tryz.prog lv X1 21 48 (qix (cdF Tryz.f21) 4) qi6 qi4 ((to_,length,out,at_,t21,t22,t23),(b0,b1))
def qi7 (to_:Int) (length:Int) (out:Nat) (at_:Int) (t21:Nat) (t22:Int) (t23:Int) (b0:(List S24)) (b1:(List S24)):Option ((Int×Int×Nat×Int×Nat×Int×Int×Bool)×((List S24)×(List S24))) :=
 (brE (decide (t23<t22))
 (gdE ((decide (0≤t23))&&(decide (t23<((t21:Nat):Int))))<|
 (gdE ((decide ((Int.toNat t23)<(List.length (EC.encL qde b1))))&&((List.length (List.getD (EC.encL qde b1) (Int.toNat t23) []))==2))<|
 (gdE (isP [(K1.int Go.IntKind.i64),(K1.int Go.IntKind.i64)] 0 (List.getD (EC.encL qde b1) (Int.toNat t23) []))<|
 (brE (decide ((IntKind.wrap .i64 ((ite (false=true) (ite ((qm6 (List.getD (List.getD (EC.encL qde b1) (Int.toNat t23) []) 0 C.ne))<to_) to_ (qm6 (List.getD (List.getD (EC.encL qde b1) (Int.toNat t23) []) 0 C.ne))) (ite (to_<(qm6 (List.getD (List.getD (EC.encL qde b1) (Int.toNat t23) []) 0 C.ne))) to_ (qm6 (List.getD (List.getD (EC.encL qde b1) (Int.toNat t23) []) 0 C.ne)))) - at_))≥length))
 (gdE ((((List.all [[(C.int Go.IntKind.i64 at_),(C.int Go.IntKind.i64 (ite (false=true) (ite ((qm6 (List.getD (List.getD (EC.encL qde b1) (Int.toNat t23) []) 0 C.ne))<to_) to_ (qm6 (List.getD (List.getD (EC.encL qde b1) (Int.toNat t23) []) 0 C.ne))) (ite (to_<(qm6 (List.getD (List.getD (EC.encL qde b1) (Int.toNat t23) []) 0 C.ne))) to_ (qm6 (List.getD (List.getD (EC.encL qde b1) (Int.toNat t23) []) 0 C.ne)))))]] (fun (el:(List C))=>((List.length el)==2)))&&(List.all (EC.encL qde b0) (fun (el:(List C))=>((List.length el)==2))))&&(decide (((((out+(List.length [[(C.int Go.IntKind.i64 at_),(C.int Go.IntKind.i64 (ite (false=true) (ite ((qm6 (List.getD (List.getD (EC.encL qde b1) (Int.toNat t23) []) 0 C.ne))<to_) to_ (qm6 (List.getD (List.getD (EC.encL qde b1) (Int.toNat t23) []) 0 C.ne))) (ite (to_<(qm6 (List.getD (List.getD (EC.encL qde b1) (Int.toNat t23) []) 0 C.ne))) to_ (qm6 (List.getD (List.getD (EC.encL qde b1) (Int.toNat t23) []) 0 C.ne)))))]]))+((out+(List.length [[(C.int Go.IntKind.i64 at_),(C.int Go.IntKind.i64 (ite (false=true) (ite ((qm6 (List.getD (List.getD (EC.encL qde b1) (Int.toNat t23) []) 0 C.ne))<to_) to_ (qm6 (List.getD (List.getD (EC.encL qde b1) (Int.toNat t23) []) 0 C.ne))) (ite (to_<(qm6 (List.getD (List.getD (EC.encL qde b1) (Int.toNat t23) []) 0 C.ne))) to_ (qm6 (List.getD (List.getD (EC.encL qde b1) (Int.toNat t23) []) 0 C.ne)))))]])) / 4))+192)*16)≤281474976710656)))&&(decide ((out+(List.length [[(C.int Go.IntKind.i64 at_),(C.int Go.IntKind.i64 (ite (false=true) (ite ((qm6 (List.getD (List.getD (EC.encL qde b1) (Int.toNat t23) []) 0 C.ne))<to_) to_ (qm6 (List.getD (List.getD (EC.encL qde b1) (Int.toNat t23) []) 0 C.ne))) (ite (to_<(qm6 (List.getD (List.getD (EC.encL qde b1) (Int.toNat t23) []) 0 C.ne))) to_ (qm6 (List.getD (List.getD (EC.encL qde b1) (Int.toNat t23) []) 0 C.ne)))))]]))≤9223372036854775807)))<|
 (gdE (EC.isL qde ((EC.encL qde b0)++[[(C.int Go.IntKind.i64 at_),(C.int Go.IntKind.i64 (ite (false=true) (ite ((qm6 (List.getD (List.getD (EC.encL qde b1) (Int.toNat t23) []) 0 C.ne))<to_) to_ (qm6 (List.getD (List.getD (EC.encL qde b1) (Int.toNat t23) []) 0 C.ne))) (ite (to_<(qm6 (List.getD (List.getD (EC.encL qde b1) (Int.toNat t23) []) 0 C.ne))) to_ (qm6 (List.getD (List.getD (EC.encL qde b1) (Int.toNat t23) []) 0 C.ne)))))]]))<|
 (gdE (EC.isL qde (EC.encL qde b1))<|
 (qi1 to_ length (out+(List.length [[(C.int Go.IntKind.i64 at_),(C.int Go.IntKind.i64 (ite (false=true) (ite ((qm6 (List.getD (List.getD (EC.encL qde b1) (Int.toNat t23) []) 0 C.ne))<to_) to_ (qm6 (List.getD (List.getD (EC.encL qde b1) (Int.toNat t23) []) 0 C.ne))) (ite (to_<(qm6 (List.getD (List.getD (EC.encL qde b1) (Int.toNat t23) []) 0 C.ne))) to_ (qm6 (List.getD (List.getD (EC.encL qde b1) (Int.toNat t23) []) 0 C.ne)))))]])) (ite (true=true) (ite (at_<(qm6 (List.getD (List.getD (EC.encL qde b1) (Int.toNat t23) []) 1 C.ne))) (qm6 (List.getD (List.getD (EC.encL qde b1) (Int.toNat t23) []) 1 C.ne)) at_) (ite ((qm6 (List.getD (List.getD (EC.encL qde b1) (Int.toNat t23) []) 1 C.ne))<at_) (qm6 (List.getD (List.getD (EC.encL qde b1) (Int.toNat t23) []) 1 C.ne)) at_)) t21 t22 (IntKind.wrap .i64 (t23+1)) (EC.decL qde ((EC.encL qde b0)++[[(C.int Go.IntKind.i64 at_),(C.int Go.IntKind.i64 (ite (false=true) (ite ((qm6 (List.getD (List.getD (EC.encL qde b1) (Int.toNat t23) []) 0 C.ne))<to_) to_ (qm6 (List.getD (List.getD (EC.encL qde b1) (Int.toNat t23) []) 0 C.ne))) (ite (to_<(qm6 (List.getD (List.getD (EC.encL qde b1) (Int.toNat t23) []) 0 C.ne))) to_ (qm6 (List.getD (List.getD (EC.encL qde b1) (Int.toNat t23) []) 0 C.ne)))))]])) (EC.decL qde (EC.encL qde b1))))))
 (gdE (EC.isL qde (EC.encL qde b0))<|
 (gdE (EC.isL qde (EC.encL qde b1))<|
 (qi1 to_ length out (ite (true=true) (ite (at_<(qm6 (List.getD (List.getD (EC.encL qde b1) (Int.toNat t23) []) 1 C.ne))) (qm6 (List.getD (List.getD (EC.encL qde b1) (Int.toNat t23) []) 1 C.ne)) at_) (ite ((qm6 (List.getD (List.getD (EC.encL qde b1) (Int.toNat t23) []) 1 C.ne))<at_) (qm6 (List.getD (List.getD (EC.encL qde b1) (Int.toNat t23) []) 1 C.ne)) at_)) t21 t22 (IntKind.wrap .i64 (t23+1)) (EC.decL qde (EC.encL qde b0)) (EC.decL qde (EC.encL qde b1)))))))))
 (gdE (EC.isL qde (EC.encL qde b0))<|
 (gdE (EC.isL qde (EC.encL qde b1))<|
 (some ((to_,(length,(out,(at_,(t21,(t22,(t23,false))))))),((EC.decL qde (EC.encL qde b0)),(EC.decL qde (EC.encL qde b1))))))))
theorem qi3 {to_ length out at_ t21 t22 t23 b0 b1 r} (h:qi7 to_ length out at_ t21 t22 t23 b0 b1=some r):qi1 to_ length out at_ t21 t22 t23 b0 b1=some r :=
 qnm (es:=q11x) (hs:=[]) [] (by kernel_rfl) trivial trivial (by kernel_rfl) h
def qi2:=qp9 Tryz.prog lv X1 4 (qix (cdF Tryz.f21) 4) qi6 qi4 (fun x=>qi1 x.1.1 x.1.2.1 x.1.2.2.1 x.1.2.2.2.1 x.1.2.2.2.2.1 x.1.2.2.2.2.2.1 x.1.2.2.2.2.2.2 x.2.1 x.2.2) (fun _ _ h=>qnl h)
def qhy:Cod (V×List B) (Nat×(List S24)):=(cPair (vRow 0) (qnk (bRow qde)))
def qi8 (l:(List S24)) (from_:Int) (to_:Int) (length:Int):Option (Nat×(List S24)):=fS Tryz.prog lv X1 21 qhx qhy (l,from_,to_,length)
def qi9 (l:(List S24)) (from_:Int) (to_:Int) (length:Int):Option (Nat×(List S24)) :=
 (gdE (EC.isL qde (EC.encL qde l))<|
 ((unionS (EC.decL qde (EC.encL qde l))).bind fun r0 =>
 (gdE ((((List.all [[(C.int Go.IntKind.i64 to_),(C.int Go.IntKind.i64 to_)]] (fun (el:(List C))=>((List.length el)==2)))&&(List.all (EC.encL qde r0.2) (fun (el:(List C))=>((List.length el)==2))))&&(decide (((((r0.1+(List.length [[(C.int Go.IntKind.i64 to_),(C.int Go.IntKind.i64 to_)]]))+((r0.1+(List.length [[(C.int Go.IntKind.i64 to_),(C.int Go.IntKind.i64 to_)]])) / 4))+192)*16)≤281474976710656)))&&(decide ((r0.1+(List.length [[(C.int Go.IntKind.i64 to_),(C.int Go.IntKind.i64 to_)]]))≤9223372036854775807)))<|
 (gdE (EC.isL qde ((EC.encL qde r0.2)++[[(C.int Go.IntKind.i64 to_),(C.int Go.IntKind.i64 to_)]]))<|
 ((qi1 to_ length 0 from_ (r0.1+(List.length [[(C.int Go.IntKind.i64 to_),(C.int Go.IntKind.i64 to_)]])) (((r0.1+(List.length [[(C.int Go.IntKind.i64 to_),(C.int Go.IntKind.i64 to_)]])):Nat):Int) 0 (EC.decL qde []) (EC.decL qde ((EC.encL qde r0.2)++[[(C.int Go.IntKind.i64 to_),(C.int Go.IntKind.i64 to_)]]))).bind fun r1 =>
 (gdE (EC.isL qde (EC.encL qde r1.2.1))<|
 (some (r1.1.2.2.1,(EC.decL qde (EC.encL qde r1.2.1))))))))))
theorem qi0 {l from_ to_ length r} (h:qi9 l from_ to_ length=some r):qi8 l from_ to_ length=some r :=
 qf4 (es:=q11x) (hs:=[]) [qi2] Tryz.func21 rfl (by kernel_rfl) rfl (by kernel_rfl) (by kernel_rfl) ⟨⟨_,rfl,rfl⟩,trivial⟩ trivial (by kernel_rfl) h
def qhz:=entS Tryz.prog lv X1 21 [] qhx qhy (fun x=>qi8 x.1 x.2.1 x.2.2.1 x.2.2.2) (fun _ _ h=>qf3 h)
def q11w:=qhz::q11x
structure S361 where
 Address:ByteArray
 State:Int
def qdi:EC S361 where
 enc x:=[.str x.Address,.int .i64 x.State]
 dec c:=⟨q10v (c.getD 0 .ne),qm6 (c.getD 1 .ne)⟩
 is c:=isE [.str,.int .i64] 0 c
 enc_dec h:=qc1 h
 dec_enc x:=by rfl
 is_enc x:=by simp [isE,isK]
theorem qdq (x:S361):qdi.enc x=[.str x.Address,.int .i64 x.State]:=rfl
theorem qmk (xs:List S361) (n:Nat):isE [.str,.int .i64] 0 ((qdi.encL xs).getD n [])=decide (n<xs.length):=by
 by_cases h:n<xs.length
 ·simp only [EC.getD_lt _ _ h];simp [qdq,isE,isK,h]
 ·simp only [EC.getD_ge _ _ (Nat.not_lt.1 h)];simp [isE,isK,h]
theorem q3d (xs:List S361) (n:Nat):q10v (((qdi.encL xs).getD n []).getD 0 .ne)=(xs.getD n (qdi.dec [])).Address:=by
 by_cases h:n<xs.length
 ·simp only [EC.getD_lt _ _ h];simp [qdq,h,q10v,qm6,q76,slOf,List.getD_eq_getElem?_getD]
 ·simp only [EC.getD_ge _ _ (Nat.not_lt.1 h)];simp [Nat.not_lt.1 h,qdi,q10v,qm6,q76,slOf,List.getD_eq_getElem?_getD,EC.decL,EC.encL]
theorem q3e (xs:List S361) (n:Nat):qm6 (((qdi.encL xs).getD n []).getD 1 .ne)=(xs.getD n (qdi.dec [])).State:=by
 by_cases h:n<xs.length
 ·simp only [EC.getD_lt _ _ h];simp [qdq,h,q10v,qm6,q76,slOf,List.getD_eq_getElem?_getD]
 ·simp only [EC.getD_ge _ _ (Nat.not_lt.1 h)];simp [Nat.not_lt.1 h,qdi,q10v,qm6,q76,slOf,List.getD_eq_getElem?_getD,EC.decL,EC.encL]
theorem qpf (a0:ByteArray) (a1:Int):([.str a0,.int .i64 a1]:List C)=qdi.enc (⟨a0,a1⟩:S361):=rfl
theorem q30 (xs:List S361) (a0:ByteArray) (a1:Int):qdi.encL xs++[[.str a0,.int .i64 a1]]=qdi.encL (xs++[(⟨a0,a1⟩:S361)]):=by rw [qpf];simp [EC.encL]
theorem q2d (xs:List S361):(qdi.encL xs).all (fun (el:List C)=>el.length==2)=true:=by induction xs with|nil=>rfl|cons x xs ih=>first|(simp [EC.encL,qdq];done)|simpa [EC.encL,qdq] using ih
theorem qxi (xs:List S361) (n:Nat) (a0:ByteArray) (a1:Int):(qdi.encL xs).set n (splice ((qdi.encL xs).getD n []) 0 [.str a0,.int .i64 a1])=qdi.encL (xs.set n ({ xs.getD n (qdi.dec []) with Address:=a0,State:=a1 })):=by
 by_cases h:n<xs.length
 ·rw [EC.getD_lt _ _ h];simp [EC.encL,List.map_set,qdq,splice,List.getD_eq_getElem?_getD,h]
 ·simp [EC.encL,List.set_eq_of_length_le,Nat.not_lt.1 h]
theorem qxh (xs:List S361) (n:Nat) (a0:ByteArray):(qdi.encL xs).set n (splice ((qdi.encL xs).getD n []) 0 [.str a0])=qdi.encL (xs.set n ({ xs.getD n (qdi.dec []) with Address:=a0 })):=by
 by_cases h:n<xs.length
 ·rw [EC.getD_lt _ _ h];simp [EC.encL,List.map_set,qdq,splice,List.getD_eq_getElem?_getD,h]
 ·simp [EC.encL,List.set_eq_of_length_le,Nat.not_lt.1 h]
theorem qxj (xs:List S361) (n:Nat) (a1:Int):(qdi.encL xs).set n (splice ((qdi.encL xs).getD n []) 1 [.int .i64 a1])=qdi.encL (xs.set n ({ xs.getD n (qdi.dec []) with State:=a1 })):=by
 by_cases h:n<xs.length
 ·rw [EC.getD_lt _ _ h];simp [EC.encL,List.map_set,qdq,splice,List.getD_eq_getElem?_getD,h]
 ·simp [EC.encL,List.set_eq_of_length_le,Nat.not_lt.1 h]
def evz_ca:=(qni (vAgg (qni (vC cStr) (qni (vC (cInt .i64)) (qni (vC (cInt .i64)) (qni (vC (cInt .i64)) (qni (vC (cInt .i64)) (qni (vC (cInt .i64)) (qni (vC (cInt .i64)) (qni (vC (cInt .i64)) (qni (vC (cInt .i64)) (qni (vC (cInt .i64)) (qnk (vC (cInt .i64)))))))))))))) (qnk (vEptr (qni cStr (qni (cInt .i64) (qni (cInt .i64) (qni cStr (qni cStr (qni cStr (qni (cSl qdi) (qni cStr (qni (cInt .i64) (qni (cInt .i64) (qni (cInt .i64) (qni (cInt .i64) (qni (cInt .i64) (qni (cInt .i64) (qni (cInt .i64) (qni (cInt .i64) (qni (cInt .i64) (qni (cInt .i64) (qni (cInt .i64) (qni (cInt .i64) (qni cBool (qni (cSl qdf) (qni (cSl qdf) (qnk (cSl qdf))))))))))))))))))))))))) 0)))
def evz_cr:Cod (V×List B) Bool:=(cFstU (cPair (vC cBool) qnj))
def evz_s (z_Name:ByteArray) (z_Standard:Int) (z_Summer:Int) (z_Begin_Month:Int) (z_Begin_Week:Int) (z_Begin_Weekday:Int) (z_Begin_Minute:Int) (z_End_Month:Int) (z_End_Week:Int) (z_End_Weekday:Int) (z_End_Minute:Int) (c1_0:ByteArray) (c1_1:Int) (c1_2:Int) (c1_3:ByteArray) (c1_4:ByteArray) (c1_5:ByteArray) (c1_6:(List S361)) (c1_7:ByteArray) (c1_8:Int) (c1_9:Int) (c1_10:Int) (c1_11:Int) (c1_12:Int) (c1_13:Int) (c1_14:Int) (c1_15:Int) (c1_16:Int) (c1_17:Int) (c1_18:Int) (c1_19:Int) (c1_20:Bool) (c1_21:(List Int)) (c1_22:(List Int)) (c1_23:(List Int)):Option Bool:=fS Tryz.prog lv X1 48 evz_ca evz_cr ((z_Name,z_Standard,z_Summer,z_Begin_Month,z_Begin_Week,z_Begin_Weekday,z_Begin_Minute,z_End_Month,z_End_Week,z_End_Weekday,z_End_Minute),(c1_0,c1_1,c1_2,c1_3,c1_4,c1_5,c1_6,c1_7,c1_8,c1_9,c1_10,c1_11,c1_12,c1_13,c1_14,c1_15,c1_16,c1_17,c1_18,c1_19,c1_20,c1_21,c1_22,c1_23))
def evz_t (z_Name:ByteArray) (z_Standard:Int) (z_Summer:Int) (z_Begin_Month:Int) (z_Begin_Week:Int) (z_Begin_Weekday:Int) (z_Begin_Minute:Int) (z_End_Month:Int) (z_End_Week:Int) (z_End_Weekday:Int) (z_End_Minute:Int) (c1_0:ByteArray) (c1_1:Int) (c1_2:Int) (c1_3:ByteArray) (c1_4:ByteArray) (c1_5:ByteArray) (c1_6:(List S361)) (c1_7:ByteArray) (c1_8:Int) (c1_9:Int) (c1_10:Int) (c1_11:Int) (c1_12:Int) (c1_13:Int) (c1_14:Int) (c1_15:Int) (c1_16:Int) (c1_17:Int) (c1_18:Int) (c1_19:Int) (c1_20:Bool) (c1_21:(List Int)) (c1_22:(List Int)) (c1_23:(List Int)):Option Bool :=
 (some (z_Name.toList==c1_7.toList))
theorem evz_eq {z_Name z_Standard z_Summer z_Begin_Month z_Begin_Week z_Begin_Weekday z_Begin_Minute z_End_Month z_End_Week z_End_Weekday z_End_Minute c1_0 c1_1 c1_2 c1_3 c1_4 c1_5 c1_6 c1_7 c1_8 c1_9 c1_10 c1_11 c1_12 c1_13 c1_14 c1_15 c1_16 c1_17 c1_18 c1_19 c1_20 c1_21 c1_22 c1_23 r} (h:evz_t z_Name z_Standard z_Summer z_Begin_Month z_Begin_Week z_Begin_Weekday z_Begin_Minute z_End_Month z_End_Week z_End_Weekday z_End_Minute c1_0 c1_1 c1_2 c1_3 c1_4 c1_5 c1_6 c1_7 c1_8 c1_9 c1_10 c1_11 c1_12 c1_13 c1_14 c1_15 c1_16 c1_17 c1_18 c1_19 c1_20 c1_21 c1_22 c1_23=some r):evz_s z_Name z_Standard z_Summer z_Begin_Month z_Begin_Week z_Begin_Weekday z_Begin_Minute z_End_Month z_End_Week z_End_Weekday z_End_Minute c1_0 c1_1 c1_2 c1_3 c1_4 c1_5 c1_6 c1_7 c1_8 c1_9 c1_10 c1_11 c1_12 c1_13 c1_14 c1_15 c1_16 c1_17 c1_18 c1_19 c1_20 c1_21 c1_22 c1_23=some r :=
 qf4 (es:=q11w) (hs:=[]) [] Tryz.func48 rfl (by kernel_rfl) rfl (by kernel_rfl) (by kernel_rfl) trivial trivial (by kernel_rfl) h
def evz_e:=entS Tryz.prog lv X1 48 [] evz_ca evz_cr (fun x=>evz_s x.1.1 x.1.2.1 x.1.2.2.1 x.1.2.2.2.1 x.1.2.2.2.2.1 x.1.2.2.2.2.2.1 x.1.2.2.2.2.2.2.1 x.1.2.2.2.2.2.2.2.1 x.1.2.2.2.2.2.2.2.2.1 x.1.2.2.2.2.2.2.2.2.2.1 x.1.2.2.2.2.2.2.2.2.2.2 x.2.1 x.2.2.1 x.2.2.2.1 x.2.2.2.2.1 x.2.2.2.2.2.1 x.2.2.2.2.2.2.1 x.2.2.2.2.2.2.2.1 x.2.2.2.2.2.2.2.2.1 x.2.2.2.2.2.2.2.2.2.1 x.2.2.2.2.2.2.2.2.2.2.1 x.2.2.2.2.2.2.2.2.2.2.2.1 x.2.2.2.2.2.2.2.2.2.2.2.2.1 x.2.2.2.2.2.2.2.2.2.2.2.2.2.1 x.2.2.2.2.2.2.2.2.2.2.2.2.2.2.1 x.2.2.2.2.2.2.2.2.2.2.2.2.2.2.2.1 x.2.2.2.2.2.2.2.2.2.2.2.2.2.2.2.2.1 x.2.2.2.2.2.2.2.2.2.2.2.2.2.2.2.2.2.1 x.2.2.2.2.2.2.2.2.2.2.2.2.2.2.2.2.2.2.1 x.2.2.2.2.2.2.2.2.2.2.2.2.2.2.2.2.2.2.2.1 x.2.2.2.2.2.2.2.2.2.2.2.2.2.2.2.2.2.2.2.2.1 x.2.2.2.2.2.2.2.2.2.2.2.2.2.2.2.2.2.2.2.2.2.1 x.2.2.2.2.2.2.2.2.2.2.2.2.2.2.2.2.2.2.2.2.2.2.1 x.2.2.2.2.2.2.2.2.2.2.2.2.2.2.2.2.2.2.2.2.2.2.2.1 x.2.2.2.2.2.2.2.2.2.2.2.2.2.2.2.2.2.2.2.2.2.2.2.2) (fun _ _ h=>qf3 h)
def q11s:=evz_e::q11w
structure S77 where
 Name:ByteArray
 Standard:Int
 Summer:Int
 Begin_Month:Int
 Begin_Week:Int
 Begin_Weekday:Int
 Begin_Minute:Int
 End_Month:Int
 End_Week:Int
 End_Weekday:Int
 End_Minute:Int
def qdk:EC S77 where
 enc x:=[.str x.Name,.int .i64 x.Standard,.int .i64 x.Summer,.int .i64 x.Begin_Month,.int .i64 x.Begin_Week,.int .i64 x.Begin_Weekday,.int .i64 x.Begin_Minute,.int .i64 x.End_Month,.int .i64 x.End_Week,.int .i64 x.End_Weekday,.int .i64 x.End_Minute]
 dec c:=⟨q10v (c.getD 0 .ne),qm6 (c.getD 1 .ne),qm6 (c.getD 2 .ne),qm6 (c.getD 3 .ne),qm6 (c.getD 4 .ne),qm6 (c.getD 5 .ne),qm6 (c.getD 6 .ne),qm6 (c.getD 7 .ne),qm6 (c.getD 8 .ne),qm6 (c.getD 9 .ne),qm6 (c.getD 10 .ne)⟩
 is c:=isE [.str,.int .i64,.int .i64,.int .i64,.int .i64,.int .i64,.int .i64,.int .i64,.int .i64,.int .i64,.int .i64] 0 c
 enc_dec h:=qc1 h
 dec_enc x:=by rfl
 is_enc x:=by simp [isE,isK]
theorem qds (x:S77):qdk.enc x=[.str x.Name,.int .i64 x.Standard,.int .i64 x.Summer,.int .i64 x.Begin_Month,.int .i64 x.Begin_Week,.int .i64 x.Begin_Weekday,.int .i64 x.Begin_Minute,.int .i64 x.End_Month,.int .i64 x.End_Week,.int .i64 x.End_Weekday,.int .i64 x.End_Minute]:=rfl
theorem qmm (xs:List S77) (n:Nat):isE [.str,.int .i64,.int .i64,.int .i64,.int .i64,.int .i64,.int .i64,.int .i64,.int .i64,.int .i64,.int .i64] 0 ((qdk.encL xs).getD n [])=decide (n<xs.length):=by
 by_cases h:n<xs.length
 ·simp only [EC.getD_lt _ _ h];simp [qds,isE,isK,h]
 ·simp only [EC.getD_ge _ _ (Nat.not_lt.1 h)];simp [isE,isK,h]
theorem q3l (xs:List S77) (n:Nat):q10v (((qdk.encL xs).getD n []).getD 0 .ne)=(xs.getD n (qdk.dec [])).Name:=by
 by_cases h:n<xs.length
 ·simp only [EC.getD_lt _ _ h];simp [qds,h,q10v,qm6,q76,slOf,List.getD_eq_getElem?_getD]
 ·simp only [EC.getD_ge _ _ (Nat.not_lt.1 h)];simp [Nat.not_lt.1 h,qdk,q10v,qm6,q76,slOf,List.getD_eq_getElem?_getD,EC.decL,EC.encL]
theorem q3m (xs:List S77) (n:Nat):qm6 (((qdk.encL xs).getD n []).getD 1 .ne)=(xs.getD n (qdk.dec [])).Standard:=by
 by_cases h:n<xs.length
 ·simp only [EC.getD_lt _ _ h];simp [qds,h,q10v,qm6,q76,slOf,List.getD_eq_getElem?_getD]
 ·simp only [EC.getD_ge _ _ (Nat.not_lt.1 h)];simp [Nat.not_lt.1 h,qdk,q10v,qm6,q76,slOf,List.getD_eq_getElem?_getD,EC.decL,EC.encL]
theorem q3o (xs:List S77) (n:Nat):qm6 (((qdk.encL xs).getD n []).getD 2 .ne)=(xs.getD n (qdk.dec [])).Summer:=by
 by_cases h:n<xs.length
 ·simp only [EC.getD_lt _ _ h];simp [qds,h,q10v,qm6,q76,slOf,List.getD_eq_getElem?_getD]
 ·simp only [EC.getD_ge _ _ (Nat.not_lt.1 h)];simp [Nat.not_lt.1 h,qdk,q10v,qm6,q76,slOf,List.getD_eq_getElem?_getD,EC.decL,EC.encL]
theorem q3p (xs:List S77) (n:Nat):qm6 (((qdk.encL xs).getD n []).getD 3 .ne)=(xs.getD n (qdk.dec [])).Begin_Month:=by
 by_cases h:n<xs.length
 ·simp only [EC.getD_lt _ _ h];simp [qds,h,q10v,qm6,q76,slOf,List.getD_eq_getElem?_getD]
 ·simp only [EC.getD_ge _ _ (Nat.not_lt.1 h)];simp [Nat.not_lt.1 h,qdk,q10v,qm6,q76,slOf,List.getD_eq_getElem?_getD,EC.decL,EC.encL]
theorem q3q (xs:List S77) (n:Nat):qm6 (((qdk.encL xs).getD n []).getD 4 .ne)=(xs.getD n (qdk.dec [])).Begin_Week:=by
 by_cases h:n<xs.length
 ·simp only [EC.getD_lt _ _ h];simp [qds,h,q10v,qm6,q76,slOf,List.getD_eq_getElem?_getD]
 ·simp only [EC.getD_ge _ _ (Nat.not_lt.1 h)];simp [Nat.not_lt.1 h,qdk,q10v,qm6,q76,slOf,List.getD_eq_getElem?_getD,EC.decL,EC.encL]
theorem q3r (xs:List S77) (n:Nat):qm6 (((qdk.encL xs).getD n []).getD 5 .ne)=(xs.getD n (qdk.dec [])).Begin_Weekday:=by
 by_cases h:n<xs.length
 ·simp only [EC.getD_lt _ _ h];simp [qds,h,q10v,qm6,q76,slOf,List.getD_eq_getElem?_getD]
 ·simp only [EC.getD_ge _ _ (Nat.not_lt.1 h)];simp [Nat.not_lt.1 h,qdk,q10v,qm6,q76,slOf,List.getD_eq_getElem?_getD,EC.decL,EC.encL]
theorem q3s (xs:List S77) (n:Nat):qm6 (((qdk.encL xs).getD n []).getD 6 .ne)=(xs.getD n (qdk.dec [])).Begin_Minute:=by
 by_cases h:n<xs.length
 ·simp only [EC.getD_lt _ _ h];simp [qds,h,q10v,qm6,q76,slOf,List.getD_eq_getElem?_getD]
 ·simp only [EC.getD_ge _ _ (Nat.not_lt.1 h)];simp [Nat.not_lt.1 h,qdk,q10v,qm6,q76,slOf,List.getD_eq_getElem?_getD,EC.decL,EC.encL]
theorem q3t (xs:List S77) (n:Nat):qm6 (((qdk.encL xs).getD n []).getD 7 .ne)=(xs.getD n (qdk.dec [])).End_Month:=by
 by_cases h:n<xs.length
 ·simp only [EC.getD_lt _ _ h];simp [qds,h,q10v,qm6,q76,slOf,List.getD_eq_getElem?_getD]
 ·simp only [EC.getD_ge _ _ (Nat.not_lt.1 h)];simp [Nat.not_lt.1 h,qdk,q10v,qm6,q76,slOf,List.getD_eq_getElem?_getD,EC.decL,EC.encL]
theorem q3u (xs:List S77) (n:Nat):qm6 (((qdk.encL xs).getD n []).getD 8 .ne)=(xs.getD n (qdk.dec [])).End_Week:=by
 by_cases h:n<xs.length
 ·simp only [EC.getD_lt _ _ h];simp [qds,h,q10v,qm6,q76,slOf,List.getD_eq_getElem?_getD]
 ·simp only [EC.getD_ge _ _ (Nat.not_lt.1 h)];simp [Nat.not_lt.1 h,qdk,q10v,qm6,q76,slOf,List.getD_eq_getElem?_getD,EC.decL,EC.encL]
theorem q3v (xs:List S77) (n:Nat):qm6 (((qdk.encL xs).getD n []).getD 9 .ne)=(xs.getD n (qdk.dec [])).End_Weekday:=by
 by_cases h:n<xs.length
 ·simp only [EC.getD_lt _ _ h];simp [qds,h,q10v,qm6,q76,slOf,List.getD_eq_getElem?_getD]
 ·simp only [EC.getD_ge _ _ (Nat.not_lt.1 h)];simp [Nat.not_lt.1 h,qdk,q10v,qm6,q76,slOf,List.getD_eq_getElem?_getD,EC.decL,EC.encL]
theorem q3n (xs:List S77) (n:Nat):qm6 (((qdk.encL xs).getD n []).getD 10 .ne)=(xs.getD n (qdk.dec [])).End_Minute:=by
 by_cases h:n<xs.length
 ·simp only [EC.getD_lt _ _ h];simp [qds,h,q10v,qm6,q76,slOf,List.getD_eq_getElem?_getD]
 ·simp only [EC.getD_ge _ _ (Nat.not_lt.1 h)];simp [Nat.not_lt.1 h,qdk,q10v,qm6,q76,slOf,List.getD_eq_getElem?_getD,EC.decL,EC.encL]
theorem lit_77 (a0:ByteArray) (a1:Int) (a2:Int) (a3:Int) (a4:Int) (a5:Int) (a6:Int) (a7:Int) (a8:Int) (a9:Int) (a10:Int):([.str a0,.int .i64 a1,.int .i64 a2,.int .i64 a3,.int .i64 a4,.int .i64 a5,.int .i64 a6,.int .i64 a7,.int .i64 a8,.int .i64 a9,.int .i64 a10]:List C)=qdk.enc (⟨a0,a1,a2,a3,a4,a5,a6,a7,a8,a9,a10⟩:S77):=rfl
theorem q32 (xs:List S77) (a0:ByteArray) (a1:Int) (a2:Int) (a3:Int) (a4:Int) (a5:Int) (a6:Int) (a7:Int) (a8:Int) (a9:Int) (a10:Int):qdk.encL xs++[[.str a0,.int .i64 a1,.int .i64 a2,.int .i64 a3,.int .i64 a4,.int .i64 a5,.int .i64 a6,.int .i64 a7,.int .i64 a8,.int .i64 a9,.int .i64 a10]]=qdk.encL (xs++[(⟨a0,a1,a2,a3,a4,a5,a6,a7,a8,a9,a10⟩:S77)]):=by rw [lit_77];simp [EC.encL]
theorem q2f (xs:List S77):(qdk.encL xs).all (fun (el:List C)=>el.length==11)=true:=by induction xs with|nil=>rfl|cons x xs ih=>first|(simp [EC.encL,qds];done)|simpa [EC.encL,qds] using ih
theorem qxt (xs:List S77) (n:Nat) (a0:ByteArray) (a1:Int) (a2:Int) (a3:Int) (a4:Int) (a5:Int) (a6:Int) (a7:Int) (a8:Int) (a9:Int) (a10:Int):(qdk.encL xs).set n (splice ((qdk.encL xs).getD n []) 0 [.str a0,.int .i64 a1,.int .i64 a2,.int .i64 a3,.int .i64 a4,.int .i64 a5,.int .i64 a6,.int .i64 a7,.int .i64 a8,.int .i64 a9,.int .i64 a10])=qdk.encL (xs.set n ({ xs.getD n (qdk.dec []) with Name:=a0,Standard:=a1,Summer:=a2,Begin_Month:=a3,Begin_Week:=a4,Begin_Weekday:=a5,Begin_Minute:=a6,End_Month:=a7,End_Week:=a8,End_Weekday:=a9,End_Minute:=a10 })):=by
 by_cases h:n<xs.length
 ·rw [EC.getD_lt _ _ h];simp [EC.encL,List.map_set,qds,splice,List.getD_eq_getElem?_getD,h]
 ·simp [EC.encL,List.set_eq_of_length_le,Nat.not_lt.1 h]
theorem qxs (xs:List S77) (n:Nat) (a0:ByteArray):(qdk.encL xs).set n (splice ((qdk.encL xs).getD n []) 0 [.str a0])=qdk.encL (xs.set n ({ xs.getD n (qdk.dec []) with Name:=a0 })):=by
 by_cases h:n<xs.length
 ·rw [EC.getD_lt _ _ h];simp [EC.encL,List.map_set,qds,splice,List.getD_eq_getElem?_getD,h]
 ·simp [EC.encL,List.set_eq_of_length_le,Nat.not_lt.1 h]
theorem qxv (xs:List S77) (n:Nat) (a1:Int):(qdk.encL xs).set n (splice ((qdk.encL xs).getD n []) 1 [.int .i64 a1])=qdk.encL (xs.set n ({ xs.getD n (qdk.dec []) with Standard:=a1 })):=by
 by_cases h:n<xs.length
 ·rw [EC.getD_lt _ _ h];simp [EC.encL,List.map_set,qds,splice,List.getD_eq_getElem?_getD,h]
 ·simp [EC.encL,List.set_eq_of_length_le,Nat.not_lt.1 h]
theorem qxw (xs:List S77) (n:Nat) (a2:Int):(qdk.encL xs).set n (splice ((qdk.encL xs).getD n []) 2 [.int .i64 a2])=qdk.encL (xs.set n ({ xs.getD n (qdk.dec []) with Summer:=a2 })):=by
 by_cases h:n<xs.length
 ·rw [EC.getD_lt _ _ h];simp [EC.encL,List.map_set,qds,splice,List.getD_eq_getElem?_getD,h]
 ·simp [EC.encL,List.set_eq_of_length_le,Nat.not_lt.1 h]
theorem qxy (xs:List S77) (n:Nat) (a3:Int) (a4:Int) (a5:Int) (a6:Int):(qdk.encL xs).set n (splice ((qdk.encL xs).getD n []) 3 [.int .i64 a3,.int .i64 a4,.int .i64 a5,.int .i64 a6])=qdk.encL (xs.set n ({ xs.getD n (qdk.dec []) with Begin_Month:=a3,Begin_Week:=a4,Begin_Weekday:=a5,Begin_Minute:=a6 })):=by
 by_cases h:n<xs.length
 ·rw [EC.getD_lt _ _ h];simp [EC.encL,List.map_set,qds,splice,List.getD_eq_getElem?_getD,h]
 ·simp [EC.encL,List.set_eq_of_length_le,Nat.not_lt.1 h]
theorem qxx (xs:List S77) (n:Nat) (a3:Int):(qdk.encL xs).set n (splice ((qdk.encL xs).getD n []) 3 [.int .i64 a3])=qdk.encL (xs.set n ({ xs.getD n (qdk.dec []) with Begin_Month:=a3 })):=by
 by_cases h:n<xs.length
 ·rw [EC.getD_lt _ _ h];simp [EC.encL,List.map_set,qds,splice,List.getD_eq_getElem?_getD,h]
 ·simp [EC.encL,List.set_eq_of_length_le,Nat.not_lt.1 h]
theorem qxz (xs:List S77) (n:Nat) (a4:Int):(qdk.encL xs).set n (splice ((qdk.encL xs).getD n []) 4 [.int .i64 a4])=qdk.encL (xs.set n ({ xs.getD n (qdk.dec []) with Begin_Week:=a4 })):=by
 by_cases h:n<xs.length
 ·rw [EC.getD_lt _ _ h];simp [EC.encL,List.map_set,qds,splice,List.getD_eq_getElem?_getD,h]
 ·simp [EC.encL,List.set_eq_of_length_le,Nat.not_lt.1 h]
theorem qy0 (xs:List S77) (n:Nat) (a5:Int):(qdk.encL xs).set n (splice ((qdk.encL xs).getD n []) 5 [.int .i64 a5])=qdk.encL (xs.set n ({ xs.getD n (qdk.dec []) with Begin_Weekday:=a5 })):=by
 by_cases h:n<xs.length
 ·rw [EC.getD_lt _ _ h];simp [EC.encL,List.map_set,qds,splice,List.getD_eq_getElem?_getD,h]
 ·simp [EC.encL,List.set_eq_of_length_le,Nat.not_lt.1 h]
theorem qy1 (xs:List S77) (n:Nat) (a6:Int):(qdk.encL xs).set n (splice ((qdk.encL xs).getD n []) 6 [.int .i64 a6])=qdk.encL (xs.set n ({ xs.getD n (qdk.dec []) with Begin_Minute:=a6 })):=by
 by_cases h:n<xs.length
 ·rw [EC.getD_lt _ _ h];simp [EC.encL,List.map_set,qds,splice,List.getD_eq_getElem?_getD,h]
 ·simp [EC.encL,List.set_eq_of_length_le,Nat.not_lt.1 h]
theorem qy3 (xs:List S77) (n:Nat) (a7:Int) (a8:Int) (a9:Int) (a10:Int):(qdk.encL xs).set n (splice ((qdk.encL xs).getD n []) 7 [.int .i64 a7,.int .i64 a8,.int .i64 a9,.int .i64 a10])=qdk.encL (xs.set n ({ xs.getD n (qdk.dec []) with End_Month:=a7,End_Week:=a8,End_Weekday:=a9,End_Minute:=a10 })):=by
 by_cases h:n<xs.length
 ·rw [EC.getD_lt _ _ h];simp [EC.encL,List.map_set,qds,splice,List.getD_eq_getElem?_getD,h]
 ·simp [EC.encL,List.set_eq_of_length_le,Nat.not_lt.1 h]
theorem qy2 (xs:List S77) (n:Nat) (a7:Int):(qdk.encL xs).set n (splice ((qdk.encL xs).getD n []) 7 [.int .i64 a7])=qdk.encL (xs.set n ({ xs.getD n (qdk.dec []) with End_Month:=a7 })):=by
 by_cases h:n<xs.length
 ·rw [EC.getD_lt _ _ h];simp [EC.encL,List.map_set,qds,splice,List.getD_eq_getElem?_getD,h]
 ·simp [EC.encL,List.set_eq_of_length_le,Nat.not_lt.1 h]
theorem qy4 (xs:List S77) (n:Nat) (a8:Int):(qdk.encL xs).set n (splice ((qdk.encL xs).getD n []) 8 [.int .i64 a8])=qdk.encL (xs.set n ({ xs.getD n (qdk.dec []) with End_Week:=a8 })):=by
 by_cases h:n<xs.length
 ·rw [EC.getD_lt _ _ h];simp [EC.encL,List.map_set,qds,splice,List.getD_eq_getElem?_getD,h]
 ·simp [EC.encL,List.set_eq_of_length_le,Nat.not_lt.1 h]
theorem qy5 (xs:List S77) (n:Nat) (a9:Int):(qdk.encL xs).set n (splice ((qdk.encL xs).getD n []) 9 [.int .i64 a9])=qdk.encL (xs.set n ({ xs.getD n (qdk.dec []) with End_Weekday:=a9 })):=by
 by_cases h:n<xs.length
 ·rw [EC.getD_lt _ _ h];simp [EC.encL,List.map_set,qds,splice,List.getD_eq_getElem?_getD,h]
 ·simp [EC.encL,List.set_eq_of_length_le,Nat.not_lt.1 h]
theorem qxu (xs:List S77) (n:Nat) (a10:Int):(qdk.encL xs).set n (splice ((qdk.encL xs).getD n []) 10 [.int .i64 a10])=qdk.encL (xs.set n ({ xs.getD n (qdk.dec []) with End_Minute:=a10 })):=by
 by_cases h:n<xs.length
 ·rw [EC.getD_lt _ _ h];simp [EC.encL,List.map_set,qds,splice,List.getD_eq_getElem?_getD,h]
 ·simp [EC.encL,List.set_eq_of_length_le,Nat.not_lt.1 h]
def qlo:=(qni (vC (cSl qdk)) (qnk (vFn 48 (qnk (vEptr (qni cStr (qni (cInt .i64) (qni (cInt .i64) (qni cStr (qni cStr (qni cStr (qni (cSl qdi) (qni cStr (qni (cInt .i64) (qni (cInt .i64) (qni (cInt .i64) (qni (cInt .i64) (qni (cInt .i64) (qni (cInt .i64) (qni (cInt .i64) (qni (cInt .i64) (qni (cInt .i64) (qni (cInt .i64) (qni (cInt .i64) (qni (cInt .i64) (qni cBool (qni (cSl qdf) (qni (cSl qdf) (qnk (cSl qdf))))))))))))))))))))))))) 0)))))
def qlx:=sLS [0,1,7,8] (qni (vC (cSl qdk)) (qni (vFn 48 (qnk (vEptr (qni cStr (qni (cInt .i64) (qni (cInt .i64) (qni cStr (qni cStr (qni cStr (qni (cSl qdi) (qni cStr (qni (cInt .i64) (qni (cInt .i64) (qni (cInt .i64) (qni (cInt .i64) (qni (cInt .i64) (qni (cInt .i64) (qni (cInt .i64) (qni (cInt .i64) (qni (cInt .i64) (qni (cInt .i64) (qni (cInt .i64) (qni (cInt .i64) (qni cBool (qni (cSl qdf) (qni (cSl qdf) (qnk (cSl qdf))))))))))))))))))))))))) 0))) (qni (vC (cInt .i64)) (qnk (vC (cInt .i64)))))) qnj [] [] (by decide) (fun _=>rfl)
def qlw:=sLS [0,1,7,8,9] (qni (vC (cSl qdk)) (qni (vFn 48 (qnk (vEptr (qni cStr (qni (cInt .i64) (qni (cInt .i64) (qni cStr (qni cStr (qni cStr (qni (cSl qdi) (qni cStr (qni (cInt .i64) (qni (cInt .i64) (qni (cInt .i64) (qni (cInt .i64) (qni (cInt .i64) (qni (cInt .i64) (qni (cInt .i64) (qni (cInt .i64) (qni (cInt .i64) (qni (cInt .i64) (qni (cInt .i64) (qni (cInt .i64) (qni cBool (qni (cSl qdf) (qni (cSl qdf) (qnk (cSl qdf))))))))))))))))))))))))) 0))) (qni (vC (cInt .i64)) (qni (vC (cInt .i64)) (qnk (vC cBool)))))) qnj [] [] (by decide) (fun _=>rfl)
def qlv:=sLS [4] (qnk (vC (cInt .i64))) qnj [] [] (by decide) (fun _=>rfl)
def qlu:=oOr 1 qlv (oAt 2 qlw) (fun x=>(by decide:(2:Nat)≠1))
def qlr (s:(List S77)) (f:ByteArray) (f_1:Int) (f_2:Int) (f_3:ByteArray) (f_4:ByteArray) (f_5:ByteArray) (f_6:(List S361)) (f_7:ByteArray) (f_8:Int) (f_9:Int) (f_10:Int) (f_11:Int) (f_12:Int) (f_13:Int) (f_14:Int) (f_15:Int) (f_16:Int) (f_17:Int) (f_18:Int) (f_19:Int) (f_20:Bool) (f_21:(List Int)) (f_22:(List Int)) (f_23:(List Int)) (t7:Int) (t8:Int):Option ((Int×Unit)⊕(((List S77)×(ByteArray×Int×Int×ByteArray×ByteArray×ByteArray×(List S361)×ByteArray×Int×Int×Int×Int×Int×Int×Int×Int×Int×Int×Int×Int×Bool×(List Int)×(List Int)×(List Int))×Int×Int×Bool)×Unit)):=lS Tryz.prog lv X1 47 19 (qix (cdF Tryz.f47) 2) qlx qlu ((s,(f,f_1,f_2,f_3,f_4,f_5,f_6,f_7,f_8,f_9,f_10,f_11,f_12,f_13,f_14,f_15,f_16,f_17,f_18,f_19,f_20,f_21,f_22,f_23),t7,t8),())
def qly (s:(List S77)) (f:ByteArray) (f_1:Int) (f_2:Int) (f_3:ByteArray) (f_4:ByteArray) (f_5:ByteArray) (f_6:(List S361)) (f_7:ByteArray) (f_8:Int) (f_9:Int) (f_10:Int) (f_11:Int) (f_12:Int) (f_13:Int) (f_14:Int) (f_15:Int) (f_16:Int) (f_17:Int) (f_18:Int) (f_19:Int) (f_20:Bool) (f_21:(List Int)) (f_22:(List Int)) (f_23:(List Int)) (t7:Int) (t8:Int):Option ((Int×Unit)⊕(((List S77)×(ByteArray×Int×Int×ByteArray×ByteArray×ByteArray×(List S361)×ByteArray×Int×Int×Int×Int×Int×Int×Int×Int×Int×Int×Int×Int×Bool×(List Int)×(List Int)×(List Int))×Int×Int×Bool)×Unit)) :=
 (brE (decide (t8<t7))
 (gdE (decide (0≤t8))<|
 (gdE ((decide ((Int.toNat t8)<(List.length (EC.encL qdk s))))&&(isE [K1.str,(K1.int Go.IntKind.i64),(K1.int Go.IntKind.i64),(K1.int Go.IntKind.i64),(K1.int Go.IntKind.i64),(K1.int Go.IntKind.i64),(K1.int Go.IntKind.i64),(K1.int Go.IntKind.i64),(K1.int Go.IntKind.i64),(K1.int Go.IntKind.i64),(K1.int Go.IntKind.i64)] 0 (List.getD (EC.encL qdk s) (Int.toNat t8) [])))<|
 (gdE (EC.isL qdi (EC.encL qdi f_6))<|
 (gdE (EC.isL qdf (EC.encL qdf f_21))<|
 (gdE (EC.isL qdf (EC.encL qdf f_22))<|
 (gdE (EC.isL qdf (EC.encL qdf f_23))<|
 ((evz_s (q10v (List.getD (List.getD (EC.encL qdk s) (Int.toNat t8) []) 0 C.ne)) (qm6 (List.getD (List.getD (EC.encL qdk s) (Int.toNat t8) []) 1 C.ne)) (qm6 (List.getD (List.getD (EC.encL qdk s) (Int.toNat t8) []) 2 C.ne)) (qm6 (List.getD (List.getD (EC.encL qdk s) (Int.toNat t8) []) 3 C.ne)) (qm6 (List.getD (List.getD (EC.encL qdk s) (Int.toNat t8) []) 4 C.ne)) (qm6 (List.getD (List.getD (EC.encL qdk s) (Int.toNat t8) []) 5 C.ne)) (qm6 (List.getD (List.getD (EC.encL qdk s) (Int.toNat t8) []) 6 C.ne)) (qm6 (List.getD (List.getD (EC.encL qdk s) (Int.toNat t8) []) 7 C.ne)) (qm6 (List.getD (List.getD (EC.encL qdk s) (Int.toNat t8) []) 8 C.ne)) (qm6 (List.getD (List.getD (EC.encL qdk s) (Int.toNat t8) []) 9 C.ne)) (qm6 (List.getD (List.getD (EC.encL qdk s) (Int.toNat t8) []) 10 C.ne)) f f_1 f_2 f_3 f_4 f_5 (EC.decL qdi (EC.encL qdi f_6)) f_7 f_8 f_9 f_10 f_11 f_12 f_13 f_14 f_15 f_16 f_17 f_18 f_19 f_20 (EC.decL qdf (EC.encL qdf f_21)) (EC.decL qdf (EC.encL qdf f_22)) (EC.decL qdf (EC.encL qdf f_23))).bind fun r0 =>
 (brE r0
 (some (.inl (t8,())))
 (gdE (EC.isL qdk (EC.encL qdk s))<|
 (gdE (EC.isL qdi (EC.encL qdi f_6))<|
 (gdE (EC.isL qdf (EC.encL qdf f_21))<|
 (gdE (EC.isL qdf (EC.encL qdf f_22))<|
 (gdE (EC.isL qdf (EC.encL qdf f_23))<|
 (qlr (EC.decL qdk (EC.encL qdk s)) f f_1 f_2 f_3 f_4 f_5 (EC.decL qdi (EC.encL qdi f_6)) f_7 f_8 f_9 f_10 f_11 f_12 f_13 f_14 f_15 f_16 f_17 f_18 f_19 f_20 (EC.decL qdf (EC.encL qdf f_21)) (EC.decL qdf (EC.encL qdf f_22)) (EC.decL qdf (EC.encL qdf f_23)) t7 (IntKind.wrap .i64 (t8+1))))))))))))))))
 (gdE (EC.isL qdk (EC.encL qdk s))<|
 (gdE (EC.isL qdi (EC.encL qdi f_6))<|
 (gdE (EC.isL qdf (EC.encL qdf f_21))<|
 (gdE (EC.isL qdf (EC.encL qdf f_22))<|
 (gdE (EC.isL qdf (EC.encL qdf f_23))<|
 (some (.inr (((EC.decL qdk (EC.encL qdk s)),((f,(f_1,(f_2,(f_3,(f_4,(f_5,((EC.decL qdi (EC.encL qdi f_6)),(f_7,(f_8,(f_9,(f_10,(f_11,(f_12,(f_13,(f_14,(f_15,(f_16,(f_17,(f_18,(f_19,(f_20,((EC.decL qdf (EC.encL qdf f_21)),((EC.decL qdf (EC.encL qdf f_22)),(EC.decL qdf (EC.encL qdf f_23))))))))))))))))))))))))),(t7,(t8,false)))),())))))))))
theorem qlt {s f f_1 f_2 f_3 f_4 f_5 f_6 f_7 f_8 f_9 f_10 f_11 f_12 f_13 f_14 f_15 f_16 f_17 f_18 f_19 f_20 f_21 f_22 f_23 t7 t8 r} (h:qly s f f_1 f_2 f_3 f_4 f_5 f_6 f_7 f_8 f_9 f_10 f_11 f_12 f_13 f_14 f_15 f_16 f_17 f_18 f_19 f_20 f_21 f_22 f_23 t7 t8=some r):qlr s f f_1 f_2 f_3 f_4 f_5 f_6 f_7 f_8 f_9 f_10 f_11 f_12 f_13 f_14 f_15 f_16 f_17 f_18 f_19 f_20 f_21 f_22 f_23 t7 t8=some r :=
 qnm (es:=q11s) (hs:=[]) [] (by kernel_rfl) trivial trivial (by kernel_rfl) h
def qls:=qp9 Tryz.prog lv X1 2 (qix (cdF Tryz.f47) 2) qlx qlu (fun x=>qlr x.1.1 x.1.2.1.1 x.1.2.1.2.1 x.1.2.1.2.2.1 x.1.2.1.2.2.2.1 x.1.2.1.2.2.2.2.1 x.1.2.1.2.2.2.2.2.1 x.1.2.1.2.2.2.2.2.2.1 x.1.2.1.2.2.2.2.2.2.2.1 x.1.2.1.2.2.2.2.2.2.2.2.1 x.1.2.1.2.2.2.2.2.2.2.2.2.1 x.1.2.1.2.2.2.2.2.2.2.2.2.2.1 x.1.2.1.2.2.2.2.2.2.2.2.2.2.2.1 x.1.2.1.2.2.2.2.2.2.2.2.2.2.2.2.1 x.1.2.1.2.2.2.2.2.2.2.2.2.2.2.2.2.1 x.1.2.1.2.2.2.2.2.2.2.2.2.2.2.2.2.2.1 x.1.2.1.2.2.2.2.2.2.2.2.2.2.2.2.2.2.2.1 x.1.2.1.2.2.2.2.2.2.2.2.2.2.2.2.2.2.2.2.1 x.1.2.1.2.2.2.2.2.2.2.2.2.2.2.2.2.2.2.2.2.1 x.1.2.1.2.2.2.2.2.2.2.2.2.2.2.2.2.2.2.2.2.2.1 x.1.2.1.2.2.2.2.2.2.2.2.2.2.2.2.2.2.2.2.2.2.2.1 x.1.2.1.2.2.2.2.2.2.2.2.2.2.2.2.2.2.2.2.2.2.2.2.1 x.1.2.1.2.2.2.2.2.2.2.2.2.2.2.2.2.2.2.2.2.2.2.2.2.1 x.1.2.1.2.2.2.2.2.2.2.2.2.2.2.2.2.2.2.2.2.2.2.2.2.2.1 x.1.2.1.2.2.2.2.2.2.2.2.2.2.2.2.2.2.2.2.2.2.2.2.2.2.2 x.1.2.2.1 x.1.2.2.2) (fun _ _ h=>qnl h)
def qlp:Cod (V×List B) Int:=(cFstU (cPair (vC (cInt .i64)) qnj))
def idxZ_s (s:(List S77)) (f_0:ByteArray) (f_1:Int) (f_2:Int) (f_3:ByteArray) (f_4:ByteArray) (f_5:ByteArray) (f_6:(List S361)) (f_7:ByteArray) (f_8:Int) (f_9:Int) (f_10:Int) (f_11:Int) (f_12:Int) (f_13:Int) (f_14:Int) (f_15:Int) (f_16:Int) (f_17:Int) (f_18:Int) (f_19:Int) (f_20:Bool) (f_21:(List Int)) (f_22:(List Int)) (f_23:(List Int)):Option Int:=fS Tryz.prog lv X1 47 qlo qlp (s,(f_0,f_1,f_2,f_3,f_4,f_5,f_6,f_7,f_8,f_9,f_10,f_11,f_12,f_13,f_14,f_15,f_16,f_17,f_18,f_19,f_20,f_21,f_22,f_23))
def idxZ_t (s:(List S77)) (f_0:ByteArray) (f_1:Int) (f_2:Int) (f_3:ByteArray) (f_4:ByteArray) (f_5:ByteArray) (f_6:(List S361)) (f_7:ByteArray) (f_8:Int) (f_9:Int) (f_10:Int) (f_11:Int) (f_12:Int) (f_13:Int) (f_14:Int) (f_15:Int) (f_16:Int) (f_17:Int) (f_18:Int) (f_19:Int) (f_20:Bool) (f_21:(List Int)) (f_22:(List Int)) (f_23:(List Int)):Option Int :=
 (gdE (EC.isL qdk (EC.encL qdk s))<|
 (gdE (EC.isL qdi (EC.encL qdi f_6))<|
 (gdE (EC.isL qdf (EC.encL qdf f_21))<|
 (gdE (EC.isL qdf (EC.encL qdf f_22))<|
 (gdE (EC.isL qdf (EC.encL qdf f_23))<|
 ((qlr (EC.decL qdk (EC.encL qdk s)) f_0 f_1 f_2 f_3 f_4 f_5 (EC.decL qdi (EC.encL qdi f_6)) f_7 f_8 f_9 f_10 f_11 f_12 f_13 f_14 f_15 f_16 f_17 f_18 f_19 f_20 (EC.decL qdf (EC.encL qdf f_21)) (EC.decL qdf (EC.encL qdf f_22)) (EC.decL qdf (EC.encL qdf f_23)) (List.length (EC.encL qdk s):Int) 0).bind fun r0 =>
 (Sum.elim (fun r1=>(some r1.1))
 (fun r1=>(some (-1:Int))) r0)))))))
theorem qlq {s f_0 f_1 f_2 f_3 f_4 f_5 f_6 f_7 f_8 f_9 f_10 f_11 f_12 f_13 f_14 f_15 f_16 f_17 f_18 f_19 f_20 f_21 f_22 f_23 r} (h:idxZ_t s f_0 f_1 f_2 f_3 f_4 f_5 f_6 f_7 f_8 f_9 f_10 f_11 f_12 f_13 f_14 f_15 f_16 f_17 f_18 f_19 f_20 f_21 f_22 f_23=some r):idxZ_s s f_0 f_1 f_2 f_3 f_4 f_5 f_6 f_7 f_8 f_9 f_10 f_11 f_12 f_13 f_14 f_15 f_16 f_17 f_18 f_19 f_20 f_21 f_22 f_23=some r :=
 qf4 (es:=q11s) (hs:=[]) [qls] Tryz.func47 rfl (by kernel_rfl) rfl (by kernel_rfl) (by kernel_rfl) ⟨⟨_,rfl,rfl⟩,trivial⟩ trivial (by kernel_rfl) h
def idxZ_e:=entS Tryz.prog lv X1 47 [48] qlo qlp (fun x=>idxZ_s x.1 x.2.1 x.2.2.1 x.2.2.2.1 x.2.2.2.2.1 x.2.2.2.2.2.1 x.2.2.2.2.2.2.1 x.2.2.2.2.2.2.2.1 x.2.2.2.2.2.2.2.2.1 x.2.2.2.2.2.2.2.2.2.1 x.2.2.2.2.2.2.2.2.2.2.1 x.2.2.2.2.2.2.2.2.2.2.2.1 x.2.2.2.2.2.2.2.2.2.2.2.2.1 x.2.2.2.2.2.2.2.2.2.2.2.2.2.1 x.2.2.2.2.2.2.2.2.2.2.2.2.2.2.1 x.2.2.2.2.2.2.2.2.2.2.2.2.2.2.2.1 x.2.2.2.2.2.2.2.2.2.2.2.2.2.2.2.2.1 x.2.2.2.2.2.2.2.2.2.2.2.2.2.2.2.2.2.1 x.2.2.2.2.2.2.2.2.2.2.2.2.2.2.2.2.2.2.1 x.2.2.2.2.2.2.2.2.2.2.2.2.2.2.2.2.2.2.2.1 x.2.2.2.2.2.2.2.2.2.2.2.2.2.2.2.2.2.2.2.2.1 x.2.2.2.2.2.2.2.2.2.2.2.2.2.2.2.2.2.2.2.2.2.1 x.2.2.2.2.2.2.2.2.2.2.2.2.2.2.2.2.2.2.2.2.2.2.1 x.2.2.2.2.2.2.2.2.2.2.2.2.2.2.2.2.2.2.2.2.2.2.2.1 x.2.2.2.2.2.2.2.2.2.2.2.2.2.2.2.2.2.2.2.2.2.2.2.2) (fun _ _ h=>qf3 h)
def q124:=idxZ_e::q11s
def evt_ca:=(qni (vAgg (qni (vC cStr) (qni (vC (cInt .i64)) (qni (vC (cInt .i64)) (qni (vC cStr) (qni (vC cStr) (qni (vC cStr) (qni (vC (cSl qdi)) (qni (vC cStr) (qni (vC (cInt .i64)) (qni (vC (cInt .i64)) (qni (vC (cInt .i64)) (qni (vC (cInt .i64)) (qni (vC (cInt .i64)) (qni (vC (cInt .i64)) (qni (vC (cInt .i64)) (qni (vC (cInt .i64)) (qni (vC (cInt .i64)) (qni (vC (cInt .i64)) (qni (vC (cInt .i64)) (qni (vC (cInt .i64)) (qni (vC cBool) (qni (vC (cSl qdf)) (qni (vC (cSl qdf)) (qnk (vC (cSl qdf))))))))))))))))))))))))))) (qni (vC (cSl qdk)) (qni (vC (cInt .i64)) (qnk (vC (cInt .i64))))))
def qeu:=sLS [2,3,4,13,57,58,59] (qni (vC (cInt .i64)) (qni (vC (cInt .i64)) (qni (vPtr 0 0) (qni (vRow 1) (qni (vC (cSl qdf)) (qni (vC (cInt .i64)) (qnk (vC (cInt .i64))))))))) (qni (qt8 (bBox (qni (vC cStr) (qni (vC (cInt .i64)) (qni (vC (cInt .i64)) (qni (vC cStr) (qni (vC cStr) (qni (vC cStr) (qni (vC (cSl qdi)) (qni (vC cStr) (qni (vC (cInt .i64)) (qni (vC (cInt .i64)) (qni (vC (cInt .i64)) (qni (vC (cInt .i64)) (qni (vC (cInt .i64)) (qni (vC (cInt .i64)) (qni (vC (cInt .i64)) (qni (vC (cInt .i64)) (qni (vC (cInt .i64)) (qni (vC (cInt .i64)) (qni (vC (cInt .i64)) (qni (vC (cInt .i64)) (qni (vC cBool) (qni (vC (cSl qdf)) (qni (vC (cSl qdf)) (qnk (vC (cSl qdf)))))))))))))))))))))))))))) (qnk (qt8 (bRow qde)))) [false,false] [] (by decide) (fun _=>rfl)
def qet:=sLS [2,3,4,13,57,58,59,60] (qni (vC (cInt .i64)) (qni (vC (cInt .i64)) (qni (vPtr 0 0) (qni (vRow 1) (qni (vC (cSl qdf)) (qni (vC (cInt .i64)) (qni (vC (cInt .i64)) (qnk (vC cBool))))))))) (qni (qt8 (bBox (qni (vC cStr) (qni (vC (cInt .i64)) (qni (vC (cInt .i64)) (qni (vC cStr) (qni (vC cStr) (qni (vC cStr) (qni (vC (cSl qdi)) (qni (vC cStr) (qni (vC (cInt .i64)) (qni (vC (cInt .i64)) (qni (vC (cInt .i64)) (qni (vC (cInt .i64)) (qni (vC (cInt .i64)) (qni (vC (cInt .i64)) (qni (vC (cInt .i64)) (qni (vC (cInt .i64)) (qni (vC (cInt .i64)) (qni (vC (cInt .i64)) (qni (vC (cInt .i64)) (qni (vC (cInt .i64)) (qni (vC cBool) (qni (vC (cSl qdf)) (qni (vC (cSl qdf)) (qnk (vC (cSl qdf)))))))))))))))))))))))))))) (qnk (qt8 (bRow qde)))) [false,false] [] (by decide) (fun _=>rfl)
def qes:=oAt 2 qet
def qep (from_:Int) (to_:Int) (out:Nat) (t57:(List Int)) (t58:Int) (t59:Int) (b0:ByteArray) (b0_1:Int) (b0_2:Int) (b0_3:ByteArray) (b0_4:ByteArray) (b0_5:ByteArray) (b0_6:(List S361)) (b0_7:ByteArray) (b0_8:Int) (b0_9:Int) (b0_10:Int) (b0_11:Int) (b0_12:Int) (b0_13:Int) (b0_14:Int) (b0_15:Int) (b0_16:Int) (b0_17:Int) (b0_18:Int) (b0_19:Int) (b0_20:Bool) (b0_21:(List Int)) (b0_22:(List Int)) (b0_23:(List Int)) (b1:(List S24)):Option ((Int×Int×Unit×Nat×(List Int)×Int×Int×Bool)×((ByteArray×Int×Int×ByteArray×ByteArray×ByteArray×(List S361)×ByteArray×Int×Int×Int×Int×Int×Int×Int×Int×Int×Int×Int×Int×Bool×(List Int)×(List Int)×(List Int))×(List S24))):=lS Tryz.prog lv X1 17 79 (qix (cdF Tryz.f17) 11) qeu qes ((from_,to_,(),out,t57,t58,t59),((b0,b0_1,b0_2,b0_3,b0_4,b0_5,b0_6,b0_7,b0_8,b0_9,b0_10,b0_11,b0_12,b0_13,b0_14,b0_15,b0_16,b0_17,b0_18,b0_19,b0_20,b0_21,b0_22,b0_23),b1))
def qev (from_:Int) (to_:Int) (out:Nat) (t57:(List Int)) (t58:Int) (t59:Int) (b0:ByteArray) (b0_1:Int) (b0_2:Int) (b0_3:ByteArray) (b0_4:ByteArray) (b0_5:ByteArray) (b0_6:(List S361)) (b0_7:ByteArray) (b0_8:Int) (b0_9:Int) (b0_10:Int) (b0_11:Int) (b0_12:Int) (b0_13:Int) (b0_14:Int) (b0_15:Int) (b0_16:Int) (b0_17:Int) (b0_18:Int) (b0_19:Int) (b0_20:Bool) (b0_21:(List Int)) (b0_22:(List Int)) (b0_23:(List Int)) (b1:(List S24)):Option ((Int×Int×Unit×Nat×(List Int)×Int×Int×Bool)×((ByteArray×Int×Int×ByteArray×ByteArray×ByteArray×(List S361)×ByteArray×Int×Int×Int×Int×Int×Int×Int×Int×Int×Int×Int×Int×Bool×(List Int)×(List Int)×(List Int))×(List S24))) :=
 (brE (decide (t59<t58))
 (gdE (decide (0≤t59))<|
 (gdE ((decide ((Int.toNat t59)<(List.length (EC.encL qdf t57))))&&(isE [(K1.int Go.IntKind.i64)] 0 (List.getD (EC.encL qdf t57) (Int.toNat t59) [])))<|
 (gdE ((((List.all [[(C.int Go.IntKind.i64 (ite (true=true) (ite ((qm6 (List.getD (List.getD (EC.encL qdf t57) (Int.toNat t59) []) 0 C.ne))<from_) from_ (qm6 (List.getD (List.getD (EC.encL qdf t57) (Int.toNat t59) []) 0 C.ne))) (ite (from_<(qm6 (List.getD (List.getD (EC.encL qdf t57) (Int.toNat t59) []) 0 C.ne))) from_ (qm6 (List.getD (List.getD (EC.encL qdf t57) (Int.toNat t59) []) 0 C.ne))))),(C.int Go.IntKind.i64 (ite (false=true) (ite ((IntKind.wrap .i64 ((qm6 (List.getD (List.getD (EC.encL qdf t57) (Int.toNat t59) []) 0 C.ne))+(IntKind.wrap .i64 (60*b0_15))))<to_) to_ (IntKind.wrap .i64 ((qm6 (List.getD (List.getD (EC.encL qdf t57) (Int.toNat t59) []) 0 C.ne))+(IntKind.wrap .i64 (60*b0_15))))) (ite (to_<(IntKind.wrap .i64 ((qm6 (List.getD (List.getD (EC.encL qdf t57) (Int.toNat t59) []) 0 C.ne))+(IntKind.wrap .i64 (60*b0_15))))) to_ (IntKind.wrap .i64 ((qm6 (List.getD (List.getD (EC.encL qdf t57) (Int.toNat t59) []) 0 C.ne))+(IntKind.wrap .i64 (60*b0_15)))))))]] (fun (el:(List C))=>((List.length el)==2)))&&(List.all (EC.encL qde b1) (fun (el:(List C))=>((List.length el)==2))))&&(decide (((((out+(List.length [[(C.int Go.IntKind.i64 (ite (true=true) (ite ((qm6 (List.getD (List.getD (EC.encL qdf t57) (Int.toNat t59) []) 0 C.ne))<from_) from_ (qm6 (List.getD (List.getD (EC.encL qdf t57) (Int.toNat t59) []) 0 C.ne))) (ite (from_<(qm6 (List.getD (List.getD (EC.encL qdf t57) (Int.toNat t59) []) 0 C.ne))) from_ (qm6 (List.getD (List.getD (EC.encL qdf t57) (Int.toNat t59) []) 0 C.ne))))),(C.int Go.IntKind.i64 (ite (false=true) (ite ((IntKind.wrap .i64 ((qm6 (List.getD (List.getD (EC.encL qdf t57) (Int.toNat t59) []) 0 C.ne))+(IntKind.wrap .i64 (60*b0_15))))<to_) to_ (IntKind.wrap .i64 ((qm6 (List.getD (List.getD (EC.encL qdf t57) (Int.toNat t59) []) 0 C.ne))+(IntKind.wrap .i64 (60*b0_15))))) (ite (to_<(IntKind.wrap .i64 ((qm6 (List.getD (List.getD (EC.encL qdf t57) (Int.toNat t59) []) 0 C.ne))+(IntKind.wrap .i64 (60*b0_15))))) to_ (IntKind.wrap .i64 ((qm6 (List.getD (List.getD (EC.encL qdf t57) (Int.toNat t59) []) 0 C.ne))+(IntKind.wrap .i64 (60*b0_15)))))))]]))+((out+(List.length [[(C.int Go.IntKind.i64 (ite (true=true) (ite ((qm6 (List.getD (List.getD (EC.encL qdf t57) (Int.toNat t59) []) 0 C.ne))<from_) from_ (qm6 (List.getD (List.getD (EC.encL qdf t57) (Int.toNat t59) []) 0 C.ne))) (ite (from_<(qm6 (List.getD (List.getD (EC.encL qdf t57) (Int.toNat t59) []) 0 C.ne))) from_ (qm6 (List.getD (List.getD (EC.encL qdf t57) (Int.toNat t59) []) 0 C.ne))))),(C.int Go.IntKind.i64 (ite (false=true) (ite ((IntKind.wrap .i64 ((qm6 (List.getD (List.getD (EC.encL qdf t57) (Int.toNat t59) []) 0 C.ne))+(IntKind.wrap .i64 (60*b0_15))))<to_) to_ (IntKind.wrap .i64 ((qm6 (List.getD (List.getD (EC.encL qdf t57) (Int.toNat t59) []) 0 C.ne))+(IntKind.wrap .i64 (60*b0_15))))) (ite (to_<(IntKind.wrap .i64 ((qm6 (List.getD (List.getD (EC.encL qdf t57) (Int.toNat t59) []) 0 C.ne))+(IntKind.wrap .i64 (60*b0_15))))) to_ (IntKind.wrap .i64 ((qm6 (List.getD (List.getD (EC.encL qdf t57) (Int.toNat t59) []) 0 C.ne))+(IntKind.wrap .i64 (60*b0_15)))))))]])) / 4))+192)*16)≤281474976710656)))&&(decide ((out+(List.length [[(C.int Go.IntKind.i64 (ite (true=true) (ite ((qm6 (List.getD (List.getD (EC.encL qdf t57) (Int.toNat t59) []) 0 C.ne))<from_) from_ (qm6 (List.getD (List.getD (EC.encL qdf t57) (Int.toNat t59) []) 0 C.ne))) (ite (from_<(qm6 (List.getD (List.getD (EC.encL qdf t57) (Int.toNat t59) []) 0 C.ne))) from_ (qm6 (List.getD (List.getD (EC.encL qdf t57) (Int.toNat t59) []) 0 C.ne))))),(C.int Go.IntKind.i64 (ite (false=true) (ite ((IntKind.wrap .i64 ((qm6 (List.getD (List.getD (EC.encL qdf t57) (Int.toNat t59) []) 0 C.ne))+(IntKind.wrap .i64 (60*b0_15))))<to_) to_ (IntKind.wrap .i64 ((qm6 (List.getD (List.getD (EC.encL qdf t57) (Int.toNat t59) []) 0 C.ne))+(IntKind.wrap .i64 (60*b0_15))))) (ite (to_<(IntKind.wrap .i64 ((qm6 (List.getD (List.getD (EC.encL qdf t57) (Int.toNat t59) []) 0 C.ne))+(IntKind.wrap .i64 (60*b0_15))))) to_ (IntKind.wrap .i64 ((qm6 (List.getD (List.getD (EC.encL qdf t57) (Int.toNat t59) []) 0 C.ne))+(IntKind.wrap .i64 (60*b0_15)))))))]]))≤9223372036854775807)))<|
 (gdE (EC.isL qdf (EC.encL qdf t57))<|
 (gdE (EC.isL qdi (EC.encL qdi b0_6))<|
 (gdE (EC.isL qdf (EC.encL qdf b0_21))<|
 (gdE (EC.isL qdf (EC.encL qdf b0_22))<|
 (gdE (EC.isL qdf (EC.encL qdf b0_23))<|
 (gdE (EC.isL qde ((EC.encL qde b1)++[[(C.int Go.IntKind.i64 (ite (true=true) (ite ((qm6 (List.getD (List.getD (EC.encL qdf t57) (Int.toNat t59) []) 0 C.ne))<from_) from_ (qm6 (List.getD (List.getD (EC.encL qdf t57) (Int.toNat t59) []) 0 C.ne))) (ite (from_<(qm6 (List.getD (List.getD (EC.encL qdf t57) (Int.toNat t59) []) 0 C.ne))) from_ (qm6 (List.getD (List.getD (EC.encL qdf t57) (Int.toNat t59) []) 0 C.ne))))),(C.int Go.IntKind.i64 (ite (false=true) (ite ((IntKind.wrap .i64 ((qm6 (List.getD (List.getD (EC.encL qdf t57) (Int.toNat t59) []) 0 C.ne))+(IntKind.wrap .i64 (60*b0_15))))<to_) to_ (IntKind.wrap .i64 ((qm6 (List.getD (List.getD (EC.encL qdf t57) (Int.toNat t59) []) 0 C.ne))+(IntKind.wrap .i64 (60*b0_15))))) (ite (to_<(IntKind.wrap .i64 ((qm6 (List.getD (List.getD (EC.encL qdf t57) (Int.toNat t59) []) 0 C.ne))+(IntKind.wrap .i64 (60*b0_15))))) to_ (IntKind.wrap .i64 ((qm6 (List.getD (List.getD (EC.encL qdf t57) (Int.toNat t59) []) 0 C.ne))+(IntKind.wrap .i64 (60*b0_15)))))))]]))<|
 (qep from_ to_ (out+(List.length [[(C.int Go.IntKind.i64 (ite (true=true) (ite ((qm6 (List.getD (List.getD (EC.encL qdf t57) (Int.toNat t59) []) 0 C.ne))<from_) from_ (qm6 (List.getD (List.getD (EC.encL qdf t57) (Int.toNat t59) []) 0 C.ne))) (ite (from_<(qm6 (List.getD (List.getD (EC.encL qdf t57) (Int.toNat t59) []) 0 C.ne))) from_ (qm6 (List.getD (List.getD (EC.encL qdf t57) (Int.toNat t59) []) 0 C.ne))))),(C.int Go.IntKind.i64 (ite (false=true) (ite ((IntKind.wrap .i64 ((qm6 (List.getD (List.getD (EC.encL qdf t57) (Int.toNat t59) []) 0 C.ne))+(IntKind.wrap .i64 (60*b0_15))))<to_) to_ (IntKind.wrap .i64 ((qm6 (List.getD (List.getD (EC.encL qdf t57) (Int.toNat t59) []) 0 C.ne))+(IntKind.wrap .i64 (60*b0_15))))) (ite (to_<(IntKind.wrap .i64 ((qm6 (List.getD (List.getD (EC.encL qdf t57) (Int.toNat t59) []) 0 C.ne))+(IntKind.wrap .i64 (60*b0_15))))) to_ (IntKind.wrap .i64 ((qm6 (List.getD (List.getD (EC.encL qdf t57) (Int.toNat t59) []) 0 C.ne))+(IntKind.wrap .i64 (60*b0_15)))))))]])) (EC.decL qdf (EC.encL qdf t57)) t58 (IntKind.wrap .i64 (t59+1)) b0 b0_1 b0_2 b0_3 b0_4 b0_5 (EC.decL qdi (EC.encL qdi b0_6)) b0_7 b0_8 b0_9 b0_10 b0_11 b0_12 b0_13 b0_14 b0_15 b0_16 b0_17 b0_18 b0_19 b0_20 (EC.decL qdf (EC.encL qdf b0_21)) (EC.decL qdf (EC.encL qdf b0_22)) (EC.decL qdf (EC.encL qdf b0_23)) (EC.decL qde ((EC.encL qde b1)++[[(C.int Go.IntKind.i64 (ite (true=true) (ite ((qm6 (List.getD (List.getD (EC.encL qdf t57) (Int.toNat t59) []) 0 C.ne))<from_) from_ (qm6 (List.getD (List.getD (EC.encL qdf t57) (Int.toNat t59) []) 0 C.ne))) (ite (from_<(qm6 (List.getD (List.getD (EC.encL qdf t57) (Int.toNat t59) []) 0 C.ne))) from_ (qm6 (List.getD (List.getD (EC.encL qdf t57) (Int.toNat t59) []) 0 C.ne))))),(C.int Go.IntKind.i64 (ite (false=true) (ite ((IntKind.wrap .i64 ((qm6 (List.getD (List.getD (EC.encL qdf t57) (Int.toNat t59) []) 0 C.ne))+(IntKind.wrap .i64 (60*b0_15))))<to_) to_ (IntKind.wrap .i64 ((qm6 (List.getD (List.getD (EC.encL qdf t57) (Int.toNat t59) []) 0 C.ne))+(IntKind.wrap .i64 (60*b0_15))))) (ite (to_<(IntKind.wrap .i64 ((qm6 (List.getD (List.getD (EC.encL qdf t57) (Int.toNat t59) []) 0 C.ne))+(IntKind.wrap .i64 (60*b0_15))))) to_ (IntKind.wrap .i64 ((qm6 (List.getD (List.getD (EC.encL qdf t57) (Int.toNat t59) []) 0 C.ne))+(IntKind.wrap .i64 (60*b0_15)))))))]]))))))))))))
 (gdE (EC.isL qdf (EC.encL qdf t57))<|
 (gdE (EC.isL qdi (EC.encL qdi b0_6))<|
 (gdE (EC.isL qdf (EC.encL qdf b0_21))<|
 (gdE (EC.isL qdf (EC.encL qdf b0_22))<|
 (gdE (EC.isL qdf (EC.encL qdf b0_23))<|
 (gdE (EC.isL qde (EC.encL qde b1))<|
 (some ((from_,(to_,((),(out,((EC.decL qdf (EC.encL qdf t57)),(t58,(t59,false))))))),((b0,(b0_1,(b0_2,(b0_3,(b0_4,(b0_5,((EC.decL qdi (EC.encL qdi b0_6)),(b0_7,(b0_8,(b0_9,(b0_10,(b0_11,(b0_12,(b0_13,(b0_14,(b0_15,(b0_16,(b0_17,(b0_18,(b0_19,(b0_20,((EC.decL qdf (EC.encL qdf b0_21)),((EC.decL qdf (EC.encL qdf b0_22)),(EC.decL qdf (EC.encL qdf b0_23))))))))))))))))))))))))),(EC.decL qde (EC.encL qde b1))))))))))))
theorem qer {from_ to_ out t57 t58 t59 b0 b0_1 b0_2 b0_3 b0_4 b0_5 b0_6 b0_7 b0_8 b0_9 b0_10 b0_11 b0_12 b0_13 b0_14 b0_15 b0_16 b0_17 b0_18 b0_19 b0_20 b0_21 b0_22 b0_23 b1 r} (h:qev from_ to_ out t57 t58 t59 b0 b0_1 b0_2 b0_3 b0_4 b0_5 b0_6 b0_7 b0_8 b0_9 b0_10 b0_11 b0_12 b0_13 b0_14 b0_15 b0_16 b0_17 b0_18 b0_19 b0_20 b0_21 b0_22 b0_23 b1=some r):qep from_ to_ out t57 t58 t59 b0 b0_1 b0_2 b0_3 b0_4 b0_5 b0_6 b0_7 b0_8 b0_9 b0_10 b0_11 b0_12 b0_13 b0_14 b0_15 b0_16 b0_17 b0_18 b0_19 b0_20 b0_21 b0_22 b0_23 b1=some r :=
 qnm (es:=q124) (hs:=[]) [] (by kernel_rfl) trivial trivial (by kernel_rfl) h
def qeq:=qp9 Tryz.prog lv X1 11 (qix (cdF Tryz.f17) 11) qeu qes (fun x=>qep x.1.1 x.1.2.1 x.1.2.2.2.1 x.1.2.2.2.2.1 x.1.2.2.2.2.2.1 x.1.2.2.2.2.2.2 x.2.1.1 x.2.1.2.1 x.2.1.2.2.1 x.2.1.2.2.2.1 x.2.1.2.2.2.2.1 x.2.1.2.2.2.2.2.1 x.2.1.2.2.2.2.2.2.1 x.2.1.2.2.2.2.2.2.2.1 x.2.1.2.2.2.2.2.2.2.2.1 x.2.1.2.2.2.2.2.2.2.2.2.1 x.2.1.2.2.2.2.2.2.2.2.2.2.1 x.2.1.2.2.2.2.2.2.2.2.2.2.2.1 x.2.1.2.2.2.2.2.2.2.2.2.2.2.2.1 x.2.1.2.2.2.2.2.2.2.2.2.2.2.2.2.1 x.2.1.2.2.2.2.2.2.2.2.2.2.2.2.2.2.1 x.2.1.2.2.2.2.2.2.2.2.2.2.2.2.2.2.2.1 x.2.1.2.2.2.2.2.2.2.2.2.2.2.2.2.2.2.2.1 x.2.1.2.2.2.2.2.2.2.2.2.2.2.2.2.2.2.2.2.1 x.2.1.2.2.2.2.2.2.2.2.2.2.2.2.2.2.2.2.2.2.1 x.2.1.2.2.2.2.2.2.2.2.2.2.2.2.2.2.2.2.2.2.2.1 x.2.1.2.2.2.2.2.2.2.2.2.2.2.2.2.2.2.2.2.2.2.2.1 x.2.1.2.2.2.2.2.2.2.2.2.2.2.2.2.2.2.2.2.2.2.2.2.1 x.2.1.2.2.2.2.2.2.2.2.2.2.2.2.2.2.2.2.2.2.2.2.2.2.1 x.2.1.2.2.2.2.2.2.2.2.2.2.2.2.2.2.2.2.2.2.2.2.2.2.2 x.2.2) (fun _ _ h=>qnl h)
def evt_cr:Cod (V×List B) ((Nat×Int)×(List S24)):=(cPair (vTup (qni (vRow 0) (qnk (vC (cInt .i64))))) (qnk (bRow qde)))
def evt_s (e_Uid:ByteArray) (e_Method:Int) (e_Sequence:Int) (e_Summary:ByteArray) (e_Place:ByteArray) (e_Organizer:ByteArray) (e_Guests:(List S361)) (e_Zone:ByteArray) (e_Start_Year:Int) (e_Start_Month:Int) (e_Start_Day:Int) (e_Start_Hour:Int) (e_Start_Minute:Int) (e_Start_Second:Int) (e_Start_Zone:Int) (e_Length:Int) (e_Repeat_Frequency:Int) (e_Repeat_Every:Int) (e_Repeat_Count:Int) (e_Repeat_Until:Int) (e_Repeat_HasUntil:Bool) (e_Repeat_Weekdays:(List Int)) (e_Repeat_Except:(List Int)) (e_Repeat_Add:(List Int)) (l:(List S77)) (from_:Int) (to_:Int):Option ((Nat×Int)×(List S24)):=fS Tryz.prog lv X1 17 evt_ca evt_cr ((e_Uid,e_Method,e_Sequence,e_Summary,e_Place,e_Organizer,e_Guests,e_Zone,e_Start_Year,e_Start_Month,e_Start_Day,e_Start_Hour,e_Start_Minute,e_Start_Second,e_Start_Zone,e_Length,e_Repeat_Frequency,e_Repeat_Every,e_Repeat_Count,e_Repeat_Until,e_Repeat_HasUntil,e_Repeat_Weekdays,e_Repeat_Except,e_Repeat_Add),l,from_,to_)
def evt_t (e_Uid:ByteArray) (e_Method:Int) (e_Sequence:Int) (e_Summary:ByteArray) (e_Place:ByteArray) (e_Organizer:ByteArray) (e_Guests:(List S361)) (e_Zone:ByteArray) (e_Start_Year:Int) (e_Start_Month:Int) (e_Start_Day:Int) (e_Start_Hour:Int) (e_Start_Minute:Int) (e_Start_Second:Int) (e_Start_Zone:Int) (e_Length:Int) (e_Repeat_Frequency:Int) (e_Repeat_Every:Int) (e_Repeat_Count:Int) (e_Repeat_Until:Int) (e_Repeat_HasUntil:Bool) (e_Repeat_Weekdays:(List Int)) (e_Repeat_Except:(List Int)) (e_Repeat_Add:(List Int)) (l:(List S77)) (from_:Int) (to_:Int):Option ((Nat×Int)×(List S24)) :=
 (gdE (EC.isL qdk (EC.encL qdk l))<|
 (gdE (EC.isL qdi (EC.encL qdi e_Guests))<|
 (gdE (EC.isL qdf (EC.encL qdf e_Repeat_Weekdays))<|
 (gdE (EC.isL qdf (EC.encL qdf e_Repeat_Except))<|
 (gdE (EC.isL qdf (EC.encL qdf e_Repeat_Add))<|
 ((idxZ_s (EC.decL qdk (EC.encL qdk l)) e_Uid e_Method e_Sequence e_Summary e_Place e_Organizer (EC.decL qdi (EC.encL qdi e_Guests)) e_Zone e_Start_Year e_Start_Month e_Start_Day e_Start_Hour e_Start_Minute e_Start_Second e_Start_Zone e_Length e_Repeat_Frequency e_Repeat_Every e_Repeat_Count e_Repeat_Until e_Repeat_HasUntil (EC.decL qdf (EC.encL qdf e_Repeat_Weekdays)) (EC.decL qdf (EC.encL qdf e_Repeat_Except)) (EC.decL qdf (EC.encL qdf e_Repeat_Add))).bind fun r0 =>
 (brE (decide (r0<0))
 (some ((0,6),(EC.decL qde [])))
 (brE ((decide (e_Length<0))==false)
 (brE (decide (e_Length>1000000))
 (some ((0,3),(EC.decL qde [])))
 (gdE (decide (0≤r0))<|
 (gdE ((decide ((Int.toNat r0)<(List.length (EC.encL qdk l))))&&(isE [K1.str,(K1.int Go.IntKind.i64),(K1.int Go.IntKind.i64),(K1.int Go.IntKind.i64),(K1.int Go.IntKind.i64),(K1.int Go.IntKind.i64),(K1.int Go.IntKind.i64),(K1.int Go.IntKind.i64),(K1.int Go.IntKind.i64),(K1.int Go.IntKind.i64),(K1.int Go.IntKind.i64)] 0 (List.getD (EC.encL qdk l) (Int.toNat r0) [])))<|
 (gdE (EC.isL qdf (EC.encL qdf e_Repeat_Weekdays))<|
 (gdE (EC.isL qdf (EC.encL qdf e_Repeat_Except))<|
 (gdE (EC.isL qdf (EC.encL qdf e_Repeat_Add))<|
 (Option.bind (betS ((q10v (List.getD (List.getD (EC.encL qdk l) (Int.toNat r0) []) 0 C.ne)),((qm6 (List.getD (List.getD (EC.encL qdk l) (Int.toNat r0) []) 1 C.ne)),((qm6 (List.getD (List.getD (EC.encL qdk l) (Int.toNat r0) []) 2 C.ne)),((qm6 (List.getD (List.getD (EC.encL qdk l) (Int.toNat r0) []) 3 C.ne)),((qm6 (List.getD (List.getD (EC.encL qdk l) (Int.toNat r0) []) 4 C.ne)),((qm6 (List.getD (List.getD (EC.encL qdk l) (Int.toNat r0) []) 5 C.ne)),((qm6 (List.getD (List.getD (EC.encL qdk l) (Int.toNat r0) []) 6 C.ne)),((qm6 (List.getD (List.getD (EC.encL qdk l) (Int.toNat r0) []) 7 C.ne)),((qm6 (List.getD (List.getD (EC.encL qdk l) (Int.toNat r0) []) 8 C.ne)),((qm6 (List.getD (List.getD (EC.encL qdk l) (Int.toNat r0) []) 9 C.ne)),(qm6 (List.getD (List.getD (EC.encL qdk l) (Int.toNat r0) []) 10 C.ne)))))))))))) (e_Start_Year,(e_Start_Month,(e_Start_Day,(e_Start_Hour,(e_Start_Minute,(e_Start_Second,e_Start_Zone)))))) (e_Repeat_Frequency,(e_Repeat_Every,(e_Repeat_Count,(e_Repeat_Until,(e_Repeat_HasUntil,((EC.decL qdf (EC.encL qdf e_Repeat_Weekdays)),((EC.decL qdf (EC.encL qdf e_Repeat_Except)),(EC.decL qdf (EC.encL qdf e_Repeat_Add))))))))) (ite (true=true) (ite ((IntKind.wrap .i64 (from_ - (IntKind.wrap .i64 (60*e_Length))))<(-68719476736)) (-68719476736) (IntKind.wrap .i64 (from_ - (IntKind.wrap .i64 (60*e_Length))))) (ite ((-68719476736)<(IntKind.wrap .i64 (from_ - (IntKind.wrap .i64 (60*e_Length))))) (-68719476736) (IntKind.wrap .i64 (from_ - (IntKind.wrap .i64 (60*e_Length)))))) to_) fun r1 =>
 ((q4q r1.2.1 r1.2.2).bind fun r2 =>
 (brE (r2==false)
 (brE (e_Method==4)
 (some ((0,r1.2.1),(EC.decL qde [])))
 (gdE (EC.isL qdf (EC.encL qdf r1.1))<|
 (gdE (EC.isL qdi (EC.encL qdi e_Guests))<|
 (gdE (EC.isL qdf (EC.encL qdf e_Repeat_Weekdays))<|
 (gdE (EC.isL qdf (EC.encL qdf e_Repeat_Except))<|
 (gdE (EC.isL qdf (EC.encL qdf e_Repeat_Add))<|
 ((qep from_ to_ 0 (EC.decL qdf (EC.encL qdf r1.1)) (((List.length (EC.encL qdf r1.1)):Nat):Int) 0 e_Uid e_Method e_Sequence e_Summary e_Place e_Organizer (EC.decL qdi (EC.encL qdi e_Guests)) e_Zone e_Start_Year e_Start_Month e_Start_Day e_Start_Hour e_Start_Minute e_Start_Second e_Start_Zone e_Length e_Repeat_Frequency e_Repeat_Every e_Repeat_Count e_Repeat_Until e_Repeat_HasUntil (EC.decL qdf (EC.encL qdf e_Repeat_Weekdays)) (EC.decL qdf (EC.encL qdf e_Repeat_Except)) (EC.decL qdf (EC.encL qdf e_Repeat_Add)) (EC.decL qde [])).bind fun r3 =>
 (gdE (EC.isL qde (EC.encL qde r3.2.2))<|
 (some ((r3.1.2.2.2.1,0),(EC.decL qde (EC.encL qde r3.2.2))))))))))))
 (some ((0,r1.2.1),(EC.decL qde []))))))))))))
 (some ((0,3),(EC.decL qde [])))))))))))
theorem evt_eq {e_Uid e_Method e_Sequence e_Summary e_Place e_Organizer e_Guests e_Zone e_Start_Year e_Start_Month e_Start_Day e_Start_Hour e_Start_Minute e_Start_Second e_Start_Zone e_Length e_Repeat_Frequency e_Repeat_Every e_Repeat_Count e_Repeat_Until e_Repeat_HasUntil e_Repeat_Weekdays e_Repeat_Except e_Repeat_Add l from_ to_ r} (h:evt_t e_Uid e_Method e_Sequence e_Summary e_Place e_Organizer e_Guests e_Zone e_Start_Year e_Start_Month e_Start_Day e_Start_Hour e_Start_Minute e_Start_Second e_Start_Zone e_Length e_Repeat_Frequency e_Repeat_Every e_Repeat_Count e_Repeat_Until e_Repeat_HasUntil e_Repeat_Weekdays e_Repeat_Except e_Repeat_Add l from_ to_=some r):evt_s e_Uid e_Method e_Sequence e_Summary e_Place e_Organizer e_Guests e_Zone e_Start_Year e_Start_Month e_Start_Day e_Start_Hour e_Start_Minute e_Start_Second e_Start_Zone e_Length e_Repeat_Frequency e_Repeat_Every e_Repeat_Count e_Repeat_Until e_Repeat_HasUntil e_Repeat_Weekdays e_Repeat_Except e_Repeat_Add l from_ to_=some r :=
 qf4 (es:=q124) (hs:=[]) [qeq] Tryz.func17 rfl (by kernel_rfl) rfl (by kernel_rfl) (by kernel_rfl) ⟨⟨_,rfl,rfl⟩,trivial⟩ trivial (by kernel_rfl) h
def evt_e:=entS Tryz.prog lv X1 17 [] evt_ca evt_cr (fun x=>evt_s x.1.1 x.1.2.1 x.1.2.2.1 x.1.2.2.2.1 x.1.2.2.2.2.1 x.1.2.2.2.2.2.1 x.1.2.2.2.2.2.2.1 x.1.2.2.2.2.2.2.2.1 x.1.2.2.2.2.2.2.2.2.1 x.1.2.2.2.2.2.2.2.2.2.1 x.1.2.2.2.2.2.2.2.2.2.2.1 x.1.2.2.2.2.2.2.2.2.2.2.2.1 x.1.2.2.2.2.2.2.2.2.2.2.2.2.1 x.1.2.2.2.2.2.2.2.2.2.2.2.2.2.1 x.1.2.2.2.2.2.2.2.2.2.2.2.2.2.2.1 x.1.2.2.2.2.2.2.2.2.2.2.2.2.2.2.2.1 x.1.2.2.2.2.2.2.2.2.2.2.2.2.2.2.2.2.1 x.1.2.2.2.2.2.2.2.2.2.2.2.2.2.2.2.2.2.1 x.1.2.2.2.2.2.2.2.2.2.2.2.2.2.2.2.2.2.2.1 x.1.2.2.2.2.2.2.2.2.2.2.2.2.2.2.2.2.2.2.2.1 x.1.2.2.2.2.2.2.2.2.2.2.2.2.2.2.2.2.2.2.2.2.1 x.1.2.2.2.2.2.2.2.2.2.2.2.2.2.2.2.2.2.2.2.2.2.1 x.1.2.2.2.2.2.2.2.2.2.2.2.2.2.2.2.2.2.2.2.2.2.2.1 x.1.2.2.2.2.2.2.2.2.2.2.2.2.2.2.2.2.2.2.2.2.2.2.2 x.2.1 x.2.2.1 x.2.2.2) (fun _ _ h=>qf3 h)
def q11r:=evt_e::q124
structure S86 where
 Uid:ByteArray
 Method:Int
 Sequence:Int
 Summary:ByteArray
 Place:ByteArray
 Organizer:ByteArray
 Guests:(List S361)
 Zone:ByteArray
 Start_Year:Int
 Start_Month:Int
 Start_Day:Int
 Start_Hour:Int
 Start_Minute:Int
 Start_Second:Int
 Start_Zone:Int
 Length:Int
 Repeat_Frequency:Int
 Repeat_Every:Int
 Repeat_Count:Int
 Repeat_Until:Int
 Repeat_HasUntil:Bool
 Repeat_Weekdays:(List Int)
 Repeat_Except:(List Int)
 Repeat_Add:(List Int)
def qdl:EC S86 where
 enc x:=[.str x.Uid,.int .i64 x.Method,.int .i64 x.Sequence,.str x.Summary,.str x.Place,.str x.Organizer,.sl (qdi.encL x.Guests),.str x.Zone,.int .i64 x.Start_Year,.int .i64 x.Start_Month,.int .i64 x.Start_Day,.int .i64 x.Start_Hour,.int .i64 x.Start_Minute,.int .i64 x.Start_Second,.int .i64 x.Start_Zone,.int .i64 x.Length,.int .i64 x.Repeat_Frequency,.int .i64 x.Repeat_Every,.int .i64 x.Repeat_Count,.int .i64 x.Repeat_Until,.bool x.Repeat_HasUntil,.sl (qdf.encL x.Repeat_Weekdays),.sl (qdf.encL x.Repeat_Except),.sl (qdf.encL x.Repeat_Add)]
 dec c:=⟨q10v (c.getD 0 .ne),qm6 (c.getD 1 .ne),qm6 (c.getD 2 .ne),q10v (c.getD 3 .ne),q10v (c.getD 4 .ne),q10v (c.getD 5 .ne),qdi.decL (slOf (c.getD 6 .ne)),q10v (c.getD 7 .ne),qm6 (c.getD 8 .ne),qm6 (c.getD 9 .ne),qm6 (c.getD 10 .ne),qm6 (c.getD 11 .ne),qm6 (c.getD 12 .ne),qm6 (c.getD 13 .ne),qm6 (c.getD 14 .ne),qm6 (c.getD 15 .ne),qm6 (c.getD 16 .ne),qm6 (c.getD 17 .ne),qm6 (c.getD 18 .ne),qm6 (c.getD 19 .ne),q76 (c.getD 20 .ne),qdf.decL (slOf (c.getD 21 .ne)),qdf.decL (slOf (c.getD 22 .ne)),qdf.decL (slOf (c.getD 23 .ne))⟩
 is c:=isE [.str,.int .i64,.int .i64,.str,.str,.str,.sl,.str,.int .i64,.int .i64,.int .i64,.int .i64,.int .i64,.int .i64,.int .i64,.int .i64,.int .i64,.int .i64,.int .i64,.int .i64,.bool,.sl,.sl,.sl] 0 c&&qdi.isL (slOf (c.getD 6 .ne))&&qdf.isL (slOf (c.getD 21 .ne))&&qdf.isL (slOf (c.getD 22 .ne))&&qdf.isL (slOf (c.getD 23 .ne))
 enc_dec h:=by
  simp only [Bool.and_eq_true] at h
  have h0:=qc1 h.1.1.1.1
  simp only [decE,decC] at h0
  simp only [EC.encL_decL _ h.1.1.1.2,EC.encL_decL _ h.1.1.2,EC.encL_decL _ h.1.2,EC.encL_decL _ h.2]
  exact h0
 dec_enc x:=by simp [q10v,qm6,q76,slOf]
 is_enc x:=by simp [isE,isK,slOf]
theorem qdt (x:S86):qdl.enc x=[.str x.Uid,.int .i64 x.Method,.int .i64 x.Sequence,.str x.Summary,.str x.Place,.str x.Organizer,.sl (qdi.encL x.Guests),.str x.Zone,.int .i64 x.Start_Year,.int .i64 x.Start_Month,.int .i64 x.Start_Day,.int .i64 x.Start_Hour,.int .i64 x.Start_Minute,.int .i64 x.Start_Second,.int .i64 x.Start_Zone,.int .i64 x.Length,.int .i64 x.Repeat_Frequency,.int .i64 x.Repeat_Every,.int .i64 x.Repeat_Count,.int .i64 x.Repeat_Until,.bool x.Repeat_HasUntil,.sl (qdf.encL x.Repeat_Weekdays),.sl (qdf.encL x.Repeat_Except),.sl (qdf.encL x.Repeat_Add)]:=rfl
theorem qmn (xs:List S86) (n:Nat):isE [.str,.int .i64,.int .i64,.str,.str,.str,.sl,.str,.int .i64,.int .i64,.int .i64,.int .i64,.int .i64,.int .i64,.int .i64,.int .i64,.int .i64,.int .i64,.int .i64,.int .i64,.bool,.sl,.sl,.sl] 0 ((qdl.encL xs).getD n [])=decide (n<xs.length):=by
 by_cases h:n<xs.length
 ·simp only [EC.getD_lt _ _ h];simp [qdt,isE,isK,h]
 ·simp only [EC.getD_ge _ _ (Nat.not_lt.1 h)];simp [isE,isK,h]
theorem q3w (xs:List S86) (n:Nat):q10v (((qdl.encL xs).getD n []).getD 0 .ne)=(xs.getD n (qdl.dec [])).Uid:=by
 by_cases h:n<xs.length
 ·simp only [EC.getD_lt _ _ h];simp [qdt,h,q10v,qm6,q76,slOf,List.getD_eq_getElem?_getD]
 ·simp only [EC.getD_ge _ _ (Nat.not_lt.1 h)];simp [Nat.not_lt.1 h,qdl,q10v,qm6,q76,slOf,List.getD_eq_getElem?_getD,EC.decL,EC.encL]
theorem q3x (xs:List S86) (n:Nat):qm6 (((qdl.encL xs).getD n []).getD 1 .ne)=(xs.getD n (qdl.dec [])).Method:=by
 by_cases h:n<xs.length
 ·simp only [EC.getD_lt _ _ h];simp [qdt,h,q10v,qm6,q76,slOf,List.getD_eq_getElem?_getD]
 ·simp only [EC.getD_ge _ _ (Nat.not_lt.1 h)];simp [Nat.not_lt.1 h,qdl,q10v,qm6,q76,slOf,List.getD_eq_getElem?_getD,EC.decL,EC.encL]
theorem q48 (xs:List S86) (n:Nat):qm6 (((qdl.encL xs).getD n []).getD 2 .ne)=(xs.getD n (qdl.dec [])).Sequence:=by
 by_cases h:n<xs.length
 ·simp only [EC.getD_lt _ _ h];simp [qdt,h,q10v,qm6,q76,slOf,List.getD_eq_getElem?_getD]
 ·simp only [EC.getD_ge _ _ (Nat.not_lt.1 h)];simp [Nat.not_lt.1 h,qdl,q10v,qm6,q76,slOf,List.getD_eq_getElem?_getD,EC.decL,EC.encL]
theorem q4d (xs:List S86) (n:Nat):q10v (((qdl.encL xs).getD n []).getD 3 .ne)=(xs.getD n (qdl.dec [])).Summary:=by
 by_cases h:n<xs.length
 ·simp only [EC.getD_lt _ _ h];simp [qdt,h,q10v,qm6,q76,slOf,List.getD_eq_getElem?_getD]
 ·simp only [EC.getD_ge _ _ (Nat.not_lt.1 h)];simp [Nat.not_lt.1 h,qdl,q10v,qm6,q76,slOf,List.getD_eq_getElem?_getD,EC.decL,EC.encL]
theorem q4e (xs:List S86) (n:Nat):q10v (((qdl.encL xs).getD n []).getD 4 .ne)=(xs.getD n (qdl.dec [])).Place:=by
 by_cases h:n<xs.length
 ·simp only [EC.getD_lt _ _ h];simp [qdt,h,q10v,qm6,q76,slOf,List.getD_eq_getElem?_getD]
 ·simp only [EC.getD_ge _ _ (Nat.not_lt.1 h)];simp [Nat.not_lt.1 h,qdl,q10v,qm6,q76,slOf,List.getD_eq_getElem?_getD,EC.decL,EC.encL]
theorem q4f (xs:List S86) (n:Nat):q10v (((qdl.encL xs).getD n []).getD 5 .ne)=(xs.getD n (qdl.dec [])).Organizer:=by
 by_cases h:n<xs.length
 ·simp only [EC.getD_lt _ _ h];simp [qdt,h,q10v,qm6,q76,slOf,List.getD_eq_getElem?_getD]
 ·simp only [EC.getD_ge _ _ (Nat.not_lt.1 h)];simp [Nat.not_lt.1 h,qdl,q10v,qm6,q76,slOf,List.getD_eq_getElem?_getD,EC.decL,EC.encL]
theorem q4g (xs:List S86) (n:Nat):slOf (((qdl.encL xs).getD n []).getD 6 .ne)=qdi.encL (xs.getD n (qdl.dec [])).Guests:=by
 by_cases h:n<xs.length
 ·simp only [EC.getD_lt _ _ h];simp [qdt,h,q10v,qm6,q76,slOf,List.getD_eq_getElem?_getD]
 ·simp only [EC.getD_ge _ _ (Nat.not_lt.1 h)];simp [Nat.not_lt.1 h,qdl,q10v,qm6,q76,slOf,List.getD_eq_getElem?_getD,EC.decL,EC.encL]
theorem q4h (xs:List S86) (n:Nat):q10v (((qdl.encL xs).getD n []).getD 7 .ne)=(xs.getD n (qdl.dec [])).Zone:=by
 by_cases h:n<xs.length
 ·simp only [EC.getD_lt _ _ h];simp [qdt,h,q10v,qm6,q76,slOf,List.getD_eq_getElem?_getD]
 ·simp only [EC.getD_ge _ _ (Nat.not_lt.1 h)];simp [Nat.not_lt.1 h,qdl,q10v,qm6,q76,slOf,List.getD_eq_getElem?_getD,EC.decL,EC.encL]
theorem q4i (xs:List S86) (n:Nat):qm6 (((qdl.encL xs).getD n []).getD 8 .ne)=(xs.getD n (qdl.dec [])).Start_Year:=by
 by_cases h:n<xs.length
 ·simp only [EC.getD_lt _ _ h];simp [qdt,h,q10v,qm6,q76,slOf,List.getD_eq_getElem?_getD]
 ·simp only [EC.getD_ge _ _ (Nat.not_lt.1 h)];simp [Nat.not_lt.1 h,qdl,q10v,qm6,q76,slOf,List.getD_eq_getElem?_getD,EC.decL,EC.encL]
theorem q4j (xs:List S86) (n:Nat):qm6 (((qdl.encL xs).getD n []).getD 9 .ne)=(xs.getD n (qdl.dec [])).Start_Month:=by
 by_cases h:n<xs.length
 ·simp only [EC.getD_lt _ _ h];simp [qdt,h,q10v,qm6,q76,slOf,List.getD_eq_getElem?_getD]
 ·simp only [EC.getD_ge _ _ (Nat.not_lt.1 h)];simp [Nat.not_lt.1 h,qdl,q10v,qm6,q76,slOf,List.getD_eq_getElem?_getD,EC.decL,EC.encL]
theorem q3y (xs:List S86) (n:Nat):qm6 (((qdl.encL xs).getD n []).getD 10 .ne)=(xs.getD n (qdl.dec [])).Start_Day:=by
 by_cases h:n<xs.length
 ·simp only [EC.getD_lt _ _ h];simp [qdt,h,q10v,qm6,q76,slOf,List.getD_eq_getElem?_getD]
 ·simp only [EC.getD_ge _ _ (Nat.not_lt.1 h)];simp [Nat.not_lt.1 h,qdl,q10v,qm6,q76,slOf,List.getD_eq_getElem?_getD,EC.decL,EC.encL]
theorem q3z (xs:List S86) (n:Nat):qm6 (((qdl.encL xs).getD n []).getD 11 .ne)=(xs.getD n (qdl.dec [])).Start_Hour:=by
 by_cases h:n<xs.length
 ·simp only [EC.getD_lt _ _ h];simp [qdt,h,q10v,qm6,q76,slOf,List.getD_eq_getElem?_getD]
 ·simp only [EC.getD_ge _ _ (Nat.not_lt.1 h)];simp [Nat.not_lt.1 h,qdl,q10v,qm6,q76,slOf,List.getD_eq_getElem?_getD,EC.decL,EC.encL]
theorem q40 (xs:List S86) (n:Nat):qm6 (((qdl.encL xs).getD n []).getD 12 .ne)=(xs.getD n (qdl.dec [])).Start_Minute:=by
 by_cases h:n<xs.length
 ·simp only [EC.getD_lt _ _ h];simp [qdt,h,q10v,qm6,q76,slOf,List.getD_eq_getElem?_getD]
 ·simp only [EC.getD_ge _ _ (Nat.not_lt.1 h)];simp [Nat.not_lt.1 h,qdl,q10v,qm6,q76,slOf,List.getD_eq_getElem?_getD,EC.decL,EC.encL]
theorem q41 (xs:List S86) (n:Nat):qm6 (((qdl.encL xs).getD n []).getD 13 .ne)=(xs.getD n (qdl.dec [])).Start_Second:=by
 by_cases h:n<xs.length
 ·simp only [EC.getD_lt _ _ h];simp [qdt,h,q10v,qm6,q76,slOf,List.getD_eq_getElem?_getD]
 ·simp only [EC.getD_ge _ _ (Nat.not_lt.1 h)];simp [Nat.not_lt.1 h,qdl,q10v,qm6,q76,slOf,List.getD_eq_getElem?_getD,EC.decL,EC.encL]
theorem q42 (xs:List S86) (n:Nat):qm6 (((qdl.encL xs).getD n []).getD 14 .ne)=(xs.getD n (qdl.dec [])).Start_Zone:=by
 by_cases h:n<xs.length
 ·simp only [EC.getD_lt _ _ h];simp [qdt,h,q10v,qm6,q76,slOf,List.getD_eq_getElem?_getD]
 ·simp only [EC.getD_ge _ _ (Nat.not_lt.1 h)];simp [Nat.not_lt.1 h,qdl,q10v,qm6,q76,slOf,List.getD_eq_getElem?_getD,EC.decL,EC.encL]
theorem q43 (xs:List S86) (n:Nat):qm6 (((qdl.encL xs).getD n []).getD 15 .ne)=(xs.getD n (qdl.dec [])).Length:=by
 by_cases h:n<xs.length
 ·simp only [EC.getD_lt _ _ h];simp [qdt,h,q10v,qm6,q76,slOf,List.getD_eq_getElem?_getD]
 ·simp only [EC.getD_ge _ _ (Nat.not_lt.1 h)];simp [Nat.not_lt.1 h,qdl,q10v,qm6,q76,slOf,List.getD_eq_getElem?_getD,EC.decL,EC.encL]
theorem q44 (xs:List S86) (n:Nat):qm6 (((qdl.encL xs).getD n []).getD 16 .ne)=(xs.getD n (qdl.dec [])).Repeat_Frequency:=by
 by_cases h:n<xs.length
 ·simp only [EC.getD_lt _ _ h];simp [qdt,h,q10v,qm6,q76,slOf,List.getD_eq_getElem?_getD]
 ·simp only [EC.getD_ge _ _ (Nat.not_lt.1 h)];simp [Nat.not_lt.1 h,qdl,q10v,qm6,q76,slOf,List.getD_eq_getElem?_getD,EC.decL,EC.encL]
theorem q45 (xs:List S86) (n:Nat):qm6 (((qdl.encL xs).getD n []).getD 17 .ne)=(xs.getD n (qdl.dec [])).Repeat_Every:=by
 by_cases h:n<xs.length
 ·simp only [EC.getD_lt _ _ h];simp [qdt,h,q10v,qm6,q76,slOf,List.getD_eq_getElem?_getD]
 ·simp only [EC.getD_ge _ _ (Nat.not_lt.1 h)];simp [Nat.not_lt.1 h,qdl,q10v,qm6,q76,slOf,List.getD_eq_getElem?_getD,EC.decL,EC.encL]
theorem q46 (xs:List S86) (n:Nat):qm6 (((qdl.encL xs).getD n []).getD 18 .ne)=(xs.getD n (qdl.dec [])).Repeat_Count:=by
 by_cases h:n<xs.length
 ·simp only [EC.getD_lt _ _ h];simp [qdt,h,q10v,qm6,q76,slOf,List.getD_eq_getElem?_getD]
 ·simp only [EC.getD_ge _ _ (Nat.not_lt.1 h)];simp [Nat.not_lt.1 h,qdl,q10v,qm6,q76,slOf,List.getD_eq_getElem?_getD,EC.decL,EC.encL]
theorem q47 (xs:List S86) (n:Nat):qm6 (((qdl.encL xs).getD n []).getD 19 .ne)=(xs.getD n (qdl.dec [])).Repeat_Until:=by
 by_cases h:n<xs.length
 ·simp only [EC.getD_lt _ _ h];simp [qdt,h,q10v,qm6,q76,slOf,List.getD_eq_getElem?_getD]
 ·simp only [EC.getD_ge _ _ (Nat.not_lt.1 h)];simp [Nat.not_lt.1 h,qdl,q10v,qm6,q76,slOf,List.getD_eq_getElem?_getD,EC.decL,EC.encL]
theorem q49 (xs:List S86) (n:Nat):q76 (((qdl.encL xs).getD n []).getD 20 .ne)=(xs.getD n (qdl.dec [])).Repeat_HasUntil:=by
 by_cases h:n<xs.length
 ·simp only [EC.getD_lt _ _ h];simp [qdt,h,q10v,qm6,q76,slOf,List.getD_eq_getElem?_getD]
 ·simp only [EC.getD_ge _ _ (Nat.not_lt.1 h)];simp [Nat.not_lt.1 h,qdl,q10v,qm6,q76,slOf,List.getD_eq_getElem?_getD,EC.decL,EC.encL]
theorem q4a (xs:List S86) (n:Nat):slOf (((qdl.encL xs).getD n []).getD 21 .ne)=qdf.encL (xs.getD n (qdl.dec [])).Repeat_Weekdays:=by
 by_cases h:n<xs.length
 ·simp only [EC.getD_lt _ _ h];simp [qdt,h,q10v,qm6,q76,slOf,List.getD_eq_getElem?_getD]
 ·simp only [EC.getD_ge _ _ (Nat.not_lt.1 h)];simp [Nat.not_lt.1 h,qdl,q10v,qm6,q76,slOf,List.getD_eq_getElem?_getD,EC.decL,EC.encL]
theorem q4b (xs:List S86) (n:Nat):slOf (((qdl.encL xs).getD n []).getD 22 .ne)=qdf.encL (xs.getD n (qdl.dec [])).Repeat_Except:=by
 by_cases h:n<xs.length
 ·simp only [EC.getD_lt _ _ h];simp [qdt,h,q10v,qm6,q76,slOf,List.getD_eq_getElem?_getD]
 ·simp only [EC.getD_ge _ _ (Nat.not_lt.1 h)];simp [Nat.not_lt.1 h,qdl,q10v,qm6,q76,slOf,List.getD_eq_getElem?_getD,EC.decL,EC.encL]
theorem q4c (xs:List S86) (n:Nat):slOf (((qdl.encL xs).getD n []).getD 23 .ne)=qdf.encL (xs.getD n (qdl.dec [])).Repeat_Add:=by
 by_cases h:n<xs.length
 ·simp only [EC.getD_lt _ _ h];simp [qdt,h,q10v,qm6,q76,slOf,List.getD_eq_getElem?_getD]
 ·simp only [EC.getD_ge _ _ (Nat.not_lt.1 h)];simp [Nat.not_lt.1 h,qdl,q10v,qm6,q76,slOf,List.getD_eq_getElem?_getD,EC.decL,EC.encL]
theorem lit_86 (a0:ByteArray) (a1:Int) (a2:Int) (a3:ByteArray) (a4:ByteArray) (a5:ByteArray) (a6:(List S361)) (a7:ByteArray) (a8:Int) (a9:Int) (a10:Int) (a11:Int) (a12:Int) (a13:Int) (a14:Int) (a15:Int) (a16:Int) (a17:Int) (a18:Int) (a19:Int) (a20:Bool) (a21:(List Int)) (a22:(List Int)) (a23:(List Int)):([.str a0,.int .i64 a1,.int .i64 a2,.str a3,.str a4,.str a5,.sl (qdi.encL a6),.str a7,.int .i64 a8,.int .i64 a9,.int .i64 a10,.int .i64 a11,.int .i64 a12,.int .i64 a13,.int .i64 a14,.int .i64 a15,.int .i64 a16,.int .i64 a17,.int .i64 a18,.int .i64 a19,.bool a20,.sl (qdf.encL a21),.sl (qdf.encL a22),.sl (qdf.encL a23)]:List C)=qdl.enc (⟨a0,a1,a2,a3,a4,a5,a6,a7,a8,a9,a10,a11,a12,a13,a14,a15,a16,a17,a18,a19,a20,a21,a22,a23⟩:S86):=rfl
theorem q33 (xs:List S86) (a0:ByteArray) (a1:Int) (a2:Int) (a3:ByteArray) (a4:ByteArray) (a5:ByteArray) (a6:(List S361)) (a7:ByteArray) (a8:Int) (a9:Int) (a10:Int) (a11:Int) (a12:Int) (a13:Int) (a14:Int) (a15:Int) (a16:Int) (a17:Int) (a18:Int) (a19:Int) (a20:Bool) (a21:(List Int)) (a22:(List Int)) (a23:(List Int)):qdl.encL xs++[[.str a0,.int .i64 a1,.int .i64 a2,.str a3,.str a4,.str a5,.sl (qdi.encL a6),.str a7,.int .i64 a8,.int .i64 a9,.int .i64 a10,.int .i64 a11,.int .i64 a12,.int .i64 a13,.int .i64 a14,.int .i64 a15,.int .i64 a16,.int .i64 a17,.int .i64 a18,.int .i64 a19,.bool a20,.sl (qdf.encL a21),.sl (qdf.encL a22),.sl (qdf.encL a23)]]=qdl.encL (xs++[(⟨a0,a1,a2,a3,a4,a5,a6,a7,a8,a9,a10,a11,a12,a13,a14,a15,a16,a17,a18,a19,a20,a21,a22,a23⟩:S86)]):=by rw [lit_86];simp [EC.encL]
theorem q2g (xs:List S86):(qdl.encL xs).all (fun (el:List C)=>el.length==24)=true:=by induction xs with|nil=>rfl|cons x xs ih=>first|(simp [EC.encL,qdt];done)|simpa [EC.encL,qdt] using ih
theorem qy7 (xs:List S86) (n:Nat) (a0:ByteArray) (a1:Int) (a2:Int) (a3:ByteArray) (a4:ByteArray) (a5:ByteArray) (a6:(List S361)) (a7:ByteArray) (a8:Int) (a9:Int) (a10:Int) (a11:Int) (a12:Int) (a13:Int) (a14:Int) (a15:Int) (a16:Int) (a17:Int) (a18:Int) (a19:Int) (a20:Bool) (a21:(List Int)) (a22:(List Int)) (a23:(List Int)):(qdl.encL xs).set n (splice ((qdl.encL xs).getD n []) 0 [.str a0,.int .i64 a1,.int .i64 a2,.str a3,.str a4,.str a5,.sl (qdi.encL a6),.str a7,.int .i64 a8,.int .i64 a9,.int .i64 a10,.int .i64 a11,.int .i64 a12,.int .i64 a13,.int .i64 a14,.int .i64 a15,.int .i64 a16,.int .i64 a17,.int .i64 a18,.int .i64 a19,.bool a20,.sl (qdf.encL a21),.sl (qdf.encL a22),.sl (qdf.encL a23)])=qdl.encL (xs.set n ({ xs.getD n (qdl.dec []) with Uid:=a0,Method:=a1,Sequence:=a2,Summary:=a3,Place:=a4,Organizer:=a5,Guests:=a6,Zone:=a7,Start_Year:=a8,Start_Month:=a9,Start_Day:=a10,Start_Hour:=a11,Start_Minute:=a12,Start_Second:=a13,Start_Zone:=a14,Length:=a15,Repeat_Frequency:=a16,Repeat_Every:=a17,Repeat_Count:=a18,Repeat_Until:=a19,Repeat_HasUntil:=a20,Repeat_Weekdays:=a21,Repeat_Except:=a22,Repeat_Add:=a23 })):=by
 by_cases h:n<xs.length
 ·rw [EC.getD_lt _ _ h];simp [EC.encL,List.map_set,qdt,splice,List.getD_eq_getElem?_getD,h]
 ·simp [EC.encL,List.set_eq_of_length_le,Nat.not_lt.1 h]
theorem qy6 (xs:List S86) (n:Nat) (a0:ByteArray):(qdl.encL xs).set n (splice ((qdl.encL xs).getD n []) 0 [.str a0])=qdl.encL (xs.set n ({ xs.getD n (qdl.dec []) with Uid:=a0 })):=by
 by_cases h:n<xs.length
 ·rw [EC.getD_lt _ _ h];simp [EC.encL,List.map_set,qdt,splice,List.getD_eq_getElem?_getD,h]
 ·simp [EC.encL,List.set_eq_of_length_le,Nat.not_lt.1 h]
theorem qyj (xs:List S86) (n:Nat) (a1:Int):(qdl.encL xs).set n (splice ((qdl.encL xs).getD n []) 1 [.int .i64 a1])=qdl.encL (xs.set n ({ xs.getD n (qdl.dec []) with Method:=a1 })):=by
 by_cases h:n<xs.length
 ·rw [EC.getD_lt _ _ h];simp [EC.encL,List.map_set,qdt,splice,List.getD_eq_getElem?_getD,h]
 ·simp [EC.encL,List.set_eq_of_length_le,Nat.not_lt.1 h]
theorem qyo (xs:List S86) (n:Nat) (a2:Int):(qdl.encL xs).set n (splice ((qdl.encL xs).getD n []) 2 [.int .i64 a2])=qdl.encL (xs.set n ({ xs.getD n (qdl.dec []) with Sequence:=a2 })):=by
 by_cases h:n<xs.length
 ·rw [EC.getD_lt _ _ h];simp [EC.encL,List.map_set,qdt,splice,List.getD_eq_getElem?_getD,h]
 ·simp [EC.encL,List.set_eq_of_length_le,Nat.not_lt.1 h]
theorem qyp (xs:List S86) (n:Nat) (a3:ByteArray):(qdl.encL xs).set n (splice ((qdl.encL xs).getD n []) 3 [.str a3])=qdl.encL (xs.set n ({ xs.getD n (qdl.dec []) with Summary:=a3 })):=by
 by_cases h:n<xs.length
 ·rw [EC.getD_lt _ _ h];simp [EC.encL,List.map_set,qdt,splice,List.getD_eq_getElem?_getD,h]
 ·simp [EC.encL,List.set_eq_of_length_le,Nat.not_lt.1 h]
theorem qyq (xs:List S86) (n:Nat) (a4:ByteArray):(qdl.encL xs).set n (splice ((qdl.encL xs).getD n []) 4 [.str a4])=qdl.encL (xs.set n ({ xs.getD n (qdl.dec []) with Place:=a4 })):=by
 by_cases h:n<xs.length
 ·rw [EC.getD_lt _ _ h];simp [EC.encL,List.map_set,qdt,splice,List.getD_eq_getElem?_getD,h]
 ·simp [EC.encL,List.set_eq_of_length_le,Nat.not_lt.1 h]
theorem qyr (xs:List S86) (n:Nat) (a5:ByteArray):(qdl.encL xs).set n (splice ((qdl.encL xs).getD n []) 5 [.str a5])=qdl.encL (xs.set n ({ xs.getD n (qdl.dec []) with Organizer:=a5 })):=by
 by_cases h:n<xs.length
 ·rw [EC.getD_lt _ _ h];simp [EC.encL,List.map_set,qdt,splice,List.getD_eq_getElem?_getD,h]
 ·simp [EC.encL,List.set_eq_of_length_le,Nat.not_lt.1 h]
theorem qys (xs:List S86) (n:Nat) (a6:(List S361)):(qdl.encL xs).set n (splice ((qdl.encL xs).getD n []) 6 [.sl (qdi.encL a6)])=qdl.encL (xs.set n ({ xs.getD n (qdl.dec []) with Guests:=a6 })):=by
 by_cases h:n<xs.length
 ·rw [EC.getD_lt _ _ h];simp [EC.encL,List.map_set,qdt,splice,List.getD_eq_getElem?_getD,h]
 ·simp [EC.encL,List.set_eq_of_length_le,Nat.not_lt.1 h]
theorem qyt (xs:List S86) (n:Nat) (a7:ByteArray):(qdl.encL xs).set n (splice ((qdl.encL xs).getD n []) 7 [.str a7])=qdl.encL (xs.set n ({ xs.getD n (qdl.dec []) with Zone:=a7 })):=by
 by_cases h:n<xs.length
 ·rw [EC.getD_lt _ _ h];simp [EC.encL,List.map_set,qdt,splice,List.getD_eq_getElem?_getD,h]
 ·simp [EC.encL,List.set_eq_of_length_le,Nat.not_lt.1 h]
theorem qyv (xs:List S86) (n:Nat) (a8:Int) (a9:Int) (a10:Int) (a11:Int) (a12:Int) (a13:Int) (a14:Int):(qdl.encL xs).set n (splice ((qdl.encL xs).getD n []) 8 [.int .i64 a8,.int .i64 a9,.int .i64 a10,.int .i64 a11,.int .i64 a12,.int .i64 a13,.int .i64 a14])=qdl.encL (xs.set n ({ xs.getD n (qdl.dec []) with Start_Year:=a8,Start_Month:=a9,Start_Day:=a10,Start_Hour:=a11,Start_Minute:=a12,Start_Second:=a13,Start_Zone:=a14 })):=by
 by_cases h:n<xs.length
 ·rw [EC.getD_lt _ _ h];simp [EC.encL,List.map_set,qdt,splice,List.getD_eq_getElem?_getD,h]
 ·simp [EC.encL,List.set_eq_of_length_le,Nat.not_lt.1 h]
theorem qyu (xs:List S86) (n:Nat) (a8:Int):(qdl.encL xs).set n (splice ((qdl.encL xs).getD n []) 8 [.int .i64 a8])=qdl.encL (xs.set n ({ xs.getD n (qdl.dec []) with Start_Year:=a8 })):=by
 by_cases h:n<xs.length
 ·rw [EC.getD_lt _ _ h];simp [EC.encL,List.map_set,qdt,splice,List.getD_eq_getElem?_getD,h]
 ·simp [EC.encL,List.set_eq_of_length_le,Nat.not_lt.1 h]
theorem qyw (xs:List S86) (n:Nat) (a9:Int):(qdl.encL xs).set n (splice ((qdl.encL xs).getD n []) 9 [.int .i64 a9])=qdl.encL (xs.set n ({ xs.getD n (qdl.dec []) with Start_Month:=a9 })):=by
 by_cases h:n<xs.length
 ·rw [EC.getD_lt _ _ h];simp [EC.encL,List.map_set,qdt,splice,List.getD_eq_getElem?_getD,h]
 ·simp [EC.encL,List.set_eq_of_length_le,Nat.not_lt.1 h]
theorem qy8 (xs:List S86) (n:Nat) (a10:Int):(qdl.encL xs).set n (splice ((qdl.encL xs).getD n []) 10 [.int .i64 a10])=qdl.encL (xs.set n ({ xs.getD n (qdl.dec []) with Start_Day:=a10 })):=by
 by_cases h:n<xs.length
 ·rw [EC.getD_lt _ _ h];simp [EC.encL,List.map_set,qdt,splice,List.getD_eq_getElem?_getD,h]
 ·simp [EC.encL,List.set_eq_of_length_le,Nat.not_lt.1 h]
theorem qy9 (xs:List S86) (n:Nat) (a11:Int):(qdl.encL xs).set n (splice ((qdl.encL xs).getD n []) 11 [.int .i64 a11])=qdl.encL (xs.set n ({ xs.getD n (qdl.dec []) with Start_Hour:=a11 })):=by
 by_cases h:n<xs.length
 ·rw [EC.getD_lt _ _ h];simp [EC.encL,List.map_set,qdt,splice,List.getD_eq_getElem?_getD,h]
 ·simp [EC.encL,List.set_eq_of_length_le,Nat.not_lt.1 h]
theorem qya (xs:List S86) (n:Nat) (a12:Int):(qdl.encL xs).set n (splice ((qdl.encL xs).getD n []) 12 [.int .i64 a12])=qdl.encL (xs.set n ({ xs.getD n (qdl.dec []) with Start_Minute:=a12 })):=by
 by_cases h:n<xs.length
 ·rw [EC.getD_lt _ _ h];simp [EC.encL,List.map_set,qdt,splice,List.getD_eq_getElem?_getD,h]
 ·simp [EC.encL,List.set_eq_of_length_le,Nat.not_lt.1 h]
theorem qyb (xs:List S86) (n:Nat) (a13:Int):(qdl.encL xs).set n (splice ((qdl.encL xs).getD n []) 13 [.int .i64 a13])=qdl.encL (xs.set n ({ xs.getD n (qdl.dec []) with Start_Second:=a13 })):=by
 by_cases h:n<xs.length
 ·rw [EC.getD_lt _ _ h];simp [EC.encL,List.map_set,qdt,splice,List.getD_eq_getElem?_getD,h]
 ·simp [EC.encL,List.set_eq_of_length_le,Nat.not_lt.1 h]
theorem qyc (xs:List S86) (n:Nat) (a14:Int):(qdl.encL xs).set n (splice ((qdl.encL xs).getD n []) 14 [.int .i64 a14])=qdl.encL (xs.set n ({ xs.getD n (qdl.dec []) with Start_Zone:=a14 })):=by
 by_cases h:n<xs.length
 ·rw [EC.getD_lt _ _ h];simp [EC.encL,List.map_set,qdt,splice,List.getD_eq_getElem?_getD,h]
 ·simp [EC.encL,List.set_eq_of_length_le,Nat.not_lt.1 h]
theorem qyd (xs:List S86) (n:Nat) (a15:Int):(qdl.encL xs).set n (splice ((qdl.encL xs).getD n []) 15 [.int .i64 a15])=qdl.encL (xs.set n ({ xs.getD n (qdl.dec []) with Length:=a15 })):=by
 by_cases h:n<xs.length
 ·rw [EC.getD_lt _ _ h];simp [EC.encL,List.map_set,qdt,splice,List.getD_eq_getElem?_getD,h]
 ·simp [EC.encL,List.set_eq_of_length_le,Nat.not_lt.1 h]
theorem qyf (xs:List S86) (n:Nat) (a16:Int) (a17:Int) (a18:Int) (a19:Int) (a20:Bool) (a21:(List Int)) (a22:(List Int)) (a23:(List Int)):(qdl.encL xs).set n (splice ((qdl.encL xs).getD n []) 16 [.int .i64 a16,.int .i64 a17,.int .i64 a18,.int .i64 a19,.bool a20,.sl (qdf.encL a21),.sl (qdf.encL a22),.sl (qdf.encL a23)])=qdl.encL (xs.set n ({ xs.getD n (qdl.dec []) with Repeat_Frequency:=a16,Repeat_Every:=a17,Repeat_Count:=a18,Repeat_Until:=a19,Repeat_HasUntil:=a20,Repeat_Weekdays:=a21,Repeat_Except:=a22,Repeat_Add:=a23 })):=by
 by_cases h:n<xs.length
 ·rw [EC.getD_lt _ _ h];simp [EC.encL,List.map_set,qdt,splice,List.getD_eq_getElem?_getD,h]
 ·simp [EC.encL,List.set_eq_of_length_le,Nat.not_lt.1 h]
theorem qye (xs:List S86) (n:Nat) (a16:Int):(qdl.encL xs).set n (splice ((qdl.encL xs).getD n []) 16 [.int .i64 a16])=qdl.encL (xs.set n ({ xs.getD n (qdl.dec []) with Repeat_Frequency:=a16 })):=by
 by_cases h:n<xs.length
 ·rw [EC.getD_lt _ _ h];simp [EC.encL,List.map_set,qdt,splice,List.getD_eq_getElem?_getD,h]
 ·simp [EC.encL,List.set_eq_of_length_le,Nat.not_lt.1 h]
theorem qyg (xs:List S86) (n:Nat) (a17:Int):(qdl.encL xs).set n (splice ((qdl.encL xs).getD n []) 17 [.int .i64 a17])=qdl.encL (xs.set n ({ xs.getD n (qdl.dec []) with Repeat_Every:=a17 })):=by
 by_cases h:n<xs.length
 ·rw [EC.getD_lt _ _ h];simp [EC.encL,List.map_set,qdt,splice,List.getD_eq_getElem?_getD,h]
 ·simp [EC.encL,List.set_eq_of_length_le,Nat.not_lt.1 h]
theorem qyh (xs:List S86) (n:Nat) (a18:Int):(qdl.encL xs).set n (splice ((qdl.encL xs).getD n []) 18 [.int .i64 a18])=qdl.encL (xs.set n ({ xs.getD n (qdl.dec []) with Repeat_Count:=a18 })):=by
 by_cases h:n<xs.length
 ·rw [EC.getD_lt _ _ h];simp [EC.encL,List.map_set,qdt,splice,List.getD_eq_getElem?_getD,h]
 ·simp [EC.encL,List.set_eq_of_length_le,Nat.not_lt.1 h]
theorem qyi (xs:List S86) (n:Nat) (a19:Int):(qdl.encL xs).set n (splice ((qdl.encL xs).getD n []) 19 [.int .i64 a19])=qdl.encL (xs.set n ({ xs.getD n (qdl.dec []) with Repeat_Until:=a19 })):=by
 by_cases h:n<xs.length
 ·rw [EC.getD_lt _ _ h];simp [EC.encL,List.map_set,qdt,splice,List.getD_eq_getElem?_getD,h]
 ·simp [EC.encL,List.set_eq_of_length_le,Nat.not_lt.1 h]
theorem qyk (xs:List S86) (n:Nat) (a20:Bool):(qdl.encL xs).set n (splice ((qdl.encL xs).getD n []) 20 [.bool a20])=qdl.encL (xs.set n ({ xs.getD n (qdl.dec []) with Repeat_HasUntil:=a20 })):=by
 by_cases h:n<xs.length
 ·rw [EC.getD_lt _ _ h];simp [EC.encL,List.map_set,qdt,splice,List.getD_eq_getElem?_getD,h]
 ·simp [EC.encL,List.set_eq_of_length_le,Nat.not_lt.1 h]
theorem qyl (xs:List S86) (n:Nat) (a21:(List Int)):(qdl.encL xs).set n (splice ((qdl.encL xs).getD n []) 21 [.sl (qdf.encL a21)])=qdl.encL (xs.set n ({ xs.getD n (qdl.dec []) with Repeat_Weekdays:=a21 })):=by
 by_cases h:n<xs.length
 ·rw [EC.getD_lt _ _ h];simp [EC.encL,List.map_set,qdt,splice,List.getD_eq_getElem?_getD,h]
 ·simp [EC.encL,List.set_eq_of_length_le,Nat.not_lt.1 h]
theorem qym (xs:List S86) (n:Nat) (a22:(List Int)):(qdl.encL xs).set n (splice ((qdl.encL xs).getD n []) 22 [.sl (qdf.encL a22)])=qdl.encL (xs.set n ({ xs.getD n (qdl.dec []) with Repeat_Except:=a22 })):=by
 by_cases h:n<xs.length
 ·rw [EC.getD_lt _ _ h];simp [EC.encL,List.map_set,qdt,splice,List.getD_eq_getElem?_getD,h]
 ·simp [EC.encL,List.set_eq_of_length_le,Nat.not_lt.1 h]
theorem qyn (xs:List S86) (n:Nat) (a23:(List Int)):(qdl.encL xs).set n (splice ((qdl.encL xs).getD n []) 23 [.sl (qdf.encL a23)])=qdl.encL (xs.set n ({ xs.getD n (qdl.dec []) with Repeat_Add:=a23 })):=by
 by_cases h:n<xs.length
 ·rw [EC.getD_lt _ _ h];simp [EC.encL,List.map_set,qdt,splice,List.getD_eq_getElem?_getD,h]
 ·simp [EC.encL,List.set_eq_of_length_le,Nat.not_lt.1 h]
def qfa:=(qni (vC (cSl qdl)) (qni (vC (cSl qdk)) (qni (vC (cInt .i64)) (qnk (vC (cInt .i64))))))
def qfr:=sLS [0,1,2,3,9,34,35,36] (qni (vC (cSl qdl)) (qni (vC (cSl qdk)) (qni (vC (cInt .i64)) (qni (vC (cInt .i64)) (qni (vPtr 0 0) (qni (vC (cSl qdk)) (qni (vC (cInt .i64)) (qnk (vC (cInt .i64)))))))))) (qnk (qt8 (bBox (qni (vC (cInt .i64)) (qnk (vC (cInt .i64))))))) [false] [] (by decide) (fun _=>rfl)
def qfq:=sLS [0,1,2,3,9,34,35,36,37] (qni (vC (cSl qdl)) (qni (vC (cSl qdk)) (qni (vC (cInt .i64)) (qni (vC (cInt .i64)) (qni (vPtr 0 0) (qni (vC (cSl qdk)) (qni (vC (cInt .i64)) (qni (vC (cInt .i64)) (qnk (vC cBool)))))))))) (qnk (qt8 (bBox (qni (vC (cInt .i64)) (qnk (vC (cInt .i64))))))) [false] [] (by decide) (fun _=>rfl)
def qfp:=sLS [8,9] (qni (vRow 0) (qnk (vPtr 1 0))) (qni (qt8 (bRow qde)) (qnk (qt8 (bBox (qni (vC (cInt .i64)) (qnk (vC (cInt .i64)))))))) [false,false] [] (by decide) (fun _=>rfl)
def qfo:=oOr 1 qfp (oAt 2 qfq) (fun x=>(by decide:(2:Nat)≠1))
def qfl (events:(List S86)) (zone:(List S77)) (from_:Int) (to_:Int) (t34:(List S77)) (t35:Int) (t36:Int) (b0:Int) (b0_1:Int):Option (((Nat×Unit)×((List S24)×(Int×Int)))⊕(((List S86)×(List S77)×Int×Int×Unit×(List S77)×Int×Int×Bool)×(Int×Int))):=lS Tryz.prog lv X1 5 78 (qix (cdF Tryz.f5) 7) qfr qfo ((events,zone,from_,to_,(),t34,t35,t36),(b0,b0_1))
def qfs (events:(List S86)) (zone:(List S77)) (from_:Int) (to_:Int) (t34:(List S77)) (t35:Int) (t36:Int) (b0:Int) (b0_1:Int):Option (((Nat×Unit)×((List S24)×(Int×Int)))⊕(((List S86)×(List S77)×Int×Int×Unit×(List S77)×Int×Int×Bool)×(Int×Int))) :=
 (brE (decide (t36<t35))
 (gdE (decide (0≤t36))<|
 (gdE ((decide ((Int.toNat t36)<(List.length (EC.encL qdk t34))))&&(isE [K1.str,(K1.int Go.IntKind.i64),(K1.int Go.IntKind.i64),(K1.int Go.IntKind.i64),(K1.int Go.IntKind.i64),(K1.int Go.IntKind.i64),(K1.int Go.IntKind.i64),(K1.int Go.IntKind.i64),(K1.int Go.IntKind.i64),(K1.int Go.IntKind.i64),(K1.int Go.IntKind.i64)] 0 (List.getD (EC.encL qdk t34) (Int.toNat t36) [])))<|
 (Option.bind (pZval ((q10v (List.getD (List.getD (EC.encL qdk t34) (Int.toNat t36) []) 0 C.ne)),((qm6 (List.getD (List.getD (EC.encL qdk t34) (Int.toNat t36) []) 1 C.ne)),((qm6 (List.getD (List.getD (EC.encL qdk t34) (Int.toNat t36) []) 2 C.ne)),((qm6 (List.getD (List.getD (EC.encL qdk t34) (Int.toNat t36) []) 3 C.ne)),((qm6 (List.getD (List.getD (EC.encL qdk t34) (Int.toNat t36) []) 4 C.ne)),((qm6 (List.getD (List.getD (EC.encL qdk t34) (Int.toNat t36) []) 5 C.ne)),((qm6 (List.getD (List.getD (EC.encL qdk t34) (Int.toNat t36) []) 6 C.ne)),((qm6 (List.getD (List.getD (EC.encL qdk t34) (Int.toNat t36) []) 7 C.ne)),((qm6 (List.getD (List.getD (EC.encL qdk t34) (Int.toNat t36) []) 8 C.ne)),((qm6 (List.getD (List.getD (EC.encL qdk t34) (Int.toNat t36) []) 9 C.ne)),(qm6 (List.getD (List.getD (EC.encL qdk t34) (Int.toNat t36) []) 10 C.ne))))))))))))) fun r0 =>
 ((q4q r0.1 r0.2).bind fun r1 =>
 (brE r1
 ((q4w r0.1 (IntKind.wrap .i64 ((-10) - t36))).bind fun r2 =>
 (some (.inl ((0,()),((EC.decL qde []),(r2.1,r2.2))))))
 (gdE (EC.isL qdl (EC.encL qdl events))<|
 (gdE (EC.isL qdk (EC.encL qdk zone))<|
 (gdE (EC.isL qdk (EC.encL qdk t34))<|
 (qfl (EC.decL qdl (EC.encL qdl events)) (EC.decL qdk (EC.encL qdk zone)) from_ to_ (EC.decL qdk (EC.encL qdk t34)) t35 (IntKind.wrap .i64 (t36+1)) b0 b0_1)))))))))
 (gdE (EC.isL qdl (EC.encL qdl events))<|
 (gdE (EC.isL qdk (EC.encL qdk zone))<|
 (gdE (EC.isL qdk (EC.encL qdk t34))<|
 (some (.inr (((EC.decL qdl (EC.encL qdl events)),((EC.decL qdk (EC.encL qdk zone)),(from_,(to_,((),((EC.decL qdk (EC.encL qdk t34)),(t35,(t36,false)))))))),(b0,b0_1))))))))
theorem qfn {events zone from_ to_ t34 t35 t36 b0 b0_1 r} (h:qfs events zone from_ to_ t34 t35 t36 b0 b0_1=some r):qfl events zone from_ to_ t34 t35 t36 b0 b0_1=some r :=
 qnm (es:=q11r) (hs:=[]) [] (by kernel_rfl) trivial trivial (by kernel_rfl) h
def qfm:=qp9 Tryz.prog lv X1 7 (qix (cdF Tryz.f5) 7) qfr qfo (fun x=>qfl x.1.1 x.1.2.1 x.1.2.2.1 x.1.2.2.2.1 x.1.2.2.2.2.2.1 x.1.2.2.2.2.2.2.1 x.1.2.2.2.2.2.2.2 x.2.1 x.2.2) (fun _ _ h=>qnl h)
def qfj:=sLS [1,2,3,9,14,51,52,53] (qni (vC (cSl qdk)) (qni (vC (cInt .i64)) (qni (vC (cInt .i64)) (qni (vPtr 0 0) (qni (vRow 1) (qni (vC (cSl qdl)) (qni (vC (cInt .i64)) (qnk (vC (cInt .i64)))))))))) (qni (qt8 (bBox (qni (vC (cInt .i64)) (qnk (vC (cInt .i64)))))) (qnk (qt8 (bRow qde)))) [false,false] [] (by decide) (fun _=>rfl)
def qfi:=sLS [1,2,3,9,14,51,52,53,54] (qni (vC (cSl qdk)) (qni (vC (cInt .i64)) (qni (vC (cInt .i64)) (qni (vPtr 0 0) (qni (vRow 1) (qni (vC (cSl qdl)) (qni (vC (cInt .i64)) (qni (vC (cInt .i64)) (qnk (vC cBool)))))))))) (qni (qt8 (bBox (qni (vC (cInt .i64)) (qnk (vC (cInt .i64)))))) (qnk (qt8 (bRow qde)))) [false,false] [] (by decide) (fun _=>rfl)
def qfh:=sLS [8,9] (qni (vRow 0) (qnk (vPtr 1 0))) (qni (qt8 (bRow qde)) (qnk (qt8 (bBox (qni (vC (cInt .i64)) (qnk (vC (cInt .i64)))))))) [false,false] [] (by decide) (fun _=>rfl)
def qfg:=oOr 1 qfh (oAt 4 qfi) (fun x=>(by decide:(4:Nat)≠1))
def qfd (zone:(List S77)) (from_:Int) (to_:Int) (out:Nat) (t51:(List S86)) (t52:Int) (t53:Int) (b0:Int) (b0_1:Int) (b1:(List S24)):Option (((Nat×Unit)×((List S24)×(Int×Int)))⊕(((List S77)×Int×Int×Unit×Nat×(List S86)×Int×Int×Bool)×((Int×Int)×(List S24)))):=lS Tryz.prog lv X1 5 78 (qix (cdF Tryz.f5) 15) qfj qfg ((zone,from_,to_,(),out,t51,t52,t53),((b0,b0_1),b1))
def qfk (zone:(List S77)) (from_:Int) (to_:Int) (out:Nat) (t51:(List S86)) (t52:Int) (t53:Int) (b0:Int) (b0_1:Int) (b1:(List S24)):Option (((Nat×Unit)×((List S24)×(Int×Int)))⊕(((List S77)×Int×Int×Unit×Nat×(List S86)×Int×Int×Bool)×((Int×Int)×(List S24)))) :=
 (brE (decide (t53<t52))
 (gdE (decide (0≤t53))<|
 (gdE ((decide ((Int.toNat t53)<(List.length (EC.encL qdl t51))))&&(isE [K1.str,(K1.int Go.IntKind.i64),(K1.int Go.IntKind.i64),K1.str,K1.str,K1.str,K1.sl,K1.str,(K1.int Go.IntKind.i64),(K1.int Go.IntKind.i64),(K1.int Go.IntKind.i64),(K1.int Go.IntKind.i64),(K1.int Go.IntKind.i64),(K1.int Go.IntKind.i64),(K1.int Go.IntKind.i64),(K1.int Go.IntKind.i64),(K1.int Go.IntKind.i64),(K1.int Go.IntKind.i64),(K1.int Go.IntKind.i64),(K1.int Go.IntKind.i64),K1.bool,K1.sl,K1.sl,K1.sl] 0 (List.getD (EC.encL qdl t51) (Int.toNat t53) [])))<|
 (gdE (EC.isL qdi (slOf (List.getD (List.getD (EC.encL qdl t51) (Int.toNat t53) []) 6 C.ne)))<|
 (gdE (EC.isL qdf (slOf (List.getD (List.getD (EC.encL qdl t51) (Int.toNat t53) []) 21 C.ne)))<|
 (gdE (EC.isL qdf (slOf (List.getD (List.getD (EC.encL qdl t51) (Int.toNat t53) []) 22 C.ne)))<|
 (gdE (EC.isL qdf (slOf (List.getD (List.getD (EC.encL qdl t51) (Int.toNat t53) []) 23 C.ne)))<|
 (gdE (EC.isL qdk (EC.encL qdk zone))<|
 ((evt_s (q10v (List.getD (List.getD (EC.encL qdl t51) (Int.toNat t53) []) 0 C.ne)) (qm6 (List.getD (List.getD (EC.encL qdl t51) (Int.toNat t53) []) 1 C.ne)) (qm6 (List.getD (List.getD (EC.encL qdl t51) (Int.toNat t53) []) 2 C.ne)) (q10v (List.getD (List.getD (EC.encL qdl t51) (Int.toNat t53) []) 3 C.ne)) (q10v (List.getD (List.getD (EC.encL qdl t51) (Int.toNat t53) []) 4 C.ne)) (q10v (List.getD (List.getD (EC.encL qdl t51) (Int.toNat t53) []) 5 C.ne)) (EC.decL qdi (slOf (List.getD (List.getD (EC.encL qdl t51) (Int.toNat t53) []) 6 C.ne))) (q10v (List.getD (List.getD (EC.encL qdl t51) (Int.toNat t53) []) 7 C.ne)) (qm6 (List.getD (List.getD (EC.encL qdl t51) (Int.toNat t53) []) 8 C.ne)) (qm6 (List.getD (List.getD (EC.encL qdl t51) (Int.toNat t53) []) 9 C.ne)) (qm6 (List.getD (List.getD (EC.encL qdl t51) (Int.toNat t53) []) 10 C.ne)) (qm6 (List.getD (List.getD (EC.encL qdl t51) (Int.toNat t53) []) 11 C.ne)) (qm6 (List.getD (List.getD (EC.encL qdl t51) (Int.toNat t53) []) 12 C.ne)) (qm6 (List.getD (List.getD (EC.encL qdl t51) (Int.toNat t53) []) 13 C.ne)) (qm6 (List.getD (List.getD (EC.encL qdl t51) (Int.toNat t53) []) 14 C.ne)) (qm6 (List.getD (List.getD (EC.encL qdl t51) (Int.toNat t53) []) 15 C.ne)) (qm6 (List.getD (List.getD (EC.encL qdl t51) (Int.toNat t53) []) 16 C.ne)) (qm6 (List.getD (List.getD (EC.encL qdl t51) (Int.toNat t53) []) 17 C.ne)) (qm6 (List.getD (List.getD (EC.encL qdl t51) (Int.toNat t53) []) 18 C.ne)) (qm6 (List.getD (List.getD (EC.encL qdl t51) (Int.toNat t53) []) 19 C.ne)) (q76 (List.getD (List.getD (EC.encL qdl t51) (Int.toNat t53) []) 20 C.ne)) (EC.decL qdf (slOf (List.getD (List.getD (EC.encL qdl t51) (Int.toNat t53) []) 21 C.ne))) (EC.decL qdf (slOf (List.getD (List.getD (EC.encL qdl t51) (Int.toNat t53) []) 22 C.ne))) (EC.decL qdf (slOf (List.getD (List.getD (EC.encL qdl t51) (Int.toNat t53) []) 23 C.ne))) (EC.decL qdk (EC.encL qdk zone)) from_ to_).bind fun r0 =>
 (brE (r0.1.2 != 0)
 ((q4w r0.1.2 t53).bind fun r1 =>
 (some (.inl ((0,()),((EC.decL qde []),(r1.1,r1.2))))))
 (gdE ((((List.all (EC.encL qde r0.2) (fun (el:(List C))=>((List.length el)==2)))&&(List.all (EC.encL qde b1) (fun (el:(List C))=>((List.length el)==2))))&&(decide (((((out+(List.length (EC.encL qde r0.2)))+((out+(List.length (EC.encL qde r0.2))) / 4))+192)*16)≤281474976710656)))&&(decide ((out+(List.length (EC.encL qde r0.2)))≤9223372036854775807)))<|
 (gdE (EC.isL qdk (EC.encL qdk zone))<|
 (gdE (EC.isL qdl (EC.encL qdl t51))<|
 (gdE (EC.isL qde ((EC.encL qde b1)++(EC.encL qde r0.2)))<|
 (qfd (EC.decL qdk (EC.encL qdk zone)) from_ to_ (out+(List.length (EC.encL qde r0.2))) (EC.decL qdl (EC.encL qdl t51)) t52 (IntKind.wrap .i64 (t53+1)) b0 b0_1 (EC.decL qde ((EC.encL qde b1)++(EC.encL qde r0.2)))))))))))))))))
 (gdE (EC.isL qdk (EC.encL qdk zone))<|
 (gdE (EC.isL qdl (EC.encL qdl t51))<|
 (gdE (EC.isL qde (EC.encL qde b1))<|
 (some (.inr (((EC.decL qdk (EC.encL qdk zone)),(from_,(to_,((),(out,((EC.decL qdl (EC.encL qdl t51)),(t52,(t53,false)))))))),((b0,b0_1),(EC.decL qde (EC.encL qde b1))))))))))
theorem qff {zone from_ to_ out t51 t52 t53 b0 b0_1 b1 r} (h:qfk zone from_ to_ out t51 t52 t53 b0 b0_1 b1=some r):qfd zone from_ to_ out t51 t52 t53 b0 b0_1 b1=some r :=
 qnm (es:=q11r) (hs:=[]) [] (by kernel_rfl) trivial trivial (by kernel_rfl) h
def qfe:=qp9 Tryz.prog lv X1 15 (qix (cdF Tryz.f5) 15) qfj qfg (fun x=>qfd x.1.1 x.1.2.1 x.1.2.2.1 x.1.2.2.2.2.1 x.1.2.2.2.2.2.1 x.1.2.2.2.2.2.2.1 x.1.2.2.2.2.2.2.2 x.2.1.1 x.2.1.2 x.2.2) (fun _ _ h=>qnl h)
def qfb:Cod (V×List B) ((Nat×(Int×Int))×(List S24)):=(cPair (vTup (qni (vRow 0) (qnk (vAgg (qni (vC (cInt .i64)) (qnk (vC (cInt .i64)))))))) (qnk (bRow qde)))
def fbOf_s (events:(List S86)) (zone:(List S77)) (from_:Int) (to_:Int):Option ((Nat×(Int×Int))×(List S24)):=fS Tryz.prog lv X1 5 qfa qfb (events,zone,from_,to_)
def fbOf_t (events:(List S86)) (zone:(List S77)) (from_:Int) (to_:Int):Option ((Nat×(Int×Int))×(List S24)) :=
 (brE ((decide ((List.length (EC.encL qdl events):Int)>20))==false)
 (brE (decide ((List.length (EC.encL qdk zone):Int)>60))
 ((q4w 2 (-1)).bind fun r0 =>
 (some ((0,(r0.1,r0.2)),(EC.decL qde []))))
 ((qie from_ to_).bind fun r0 =>
 ((q4q r0.1 r0.2).bind fun r1 =>
 (brE r1
 (some ((0,(r0.1,r0.2)),(EC.decL qde [])))
 (gdE (EC.isL qdl (EC.encL qdl events))<|
 (gdE (EC.isL qdk (EC.encL qdk zone))<|
 (gdE (EC.isL qdk (EC.encL qdk zone))<|
 ((qfl (EC.decL qdl (EC.encL qdl events)) (EC.decL qdk (EC.encL qdk zone)) from_ to_ (EC.decL qdk (EC.encL qdk zone)) (List.length (EC.encL qdk zone):Int) 0 0 0).bind fun r2 =>
 (Sum.elim (fun r3=>(gdE (EC.isL qde (EC.encL qde r3.2.1))<|
 (some ((r3.1.1,(r3.2.2.1,r3.2.2.2)),(EC.decL qde (EC.encL qde r3.2.1))))))
 (fun r3=>(gdE (EC.isL qdk (EC.encL qdk r3.1.2.1))<|
 (gdE (EC.isL qdl (EC.encL qdl r3.1.1))<|
 ((qfd (EC.decL qdk (EC.encL qdk r3.1.2.1)) r3.1.2.2.1 r3.1.2.2.2.1 0 (EC.decL qdl (EC.encL qdl r3.1.1)) (((List.length (EC.encL qdl r3.1.1)):Nat):Int) 0 r3.2.1 r3.2.2 (EC.decL qde [])).bind fun r4 =>
 (Sum.elim (fun r5=>(gdE (EC.isL qde (EC.encL qde r5.2.1))<|
 (some ((r5.1.1,(r5.2.2.1,r5.2.2.2)),(EC.decL qde (EC.encL qde r5.2.1))))))
 (fun r5=>(gdE (EC.isL qde (EC.encL qde r5.2.2))<|
 ((unionS (EC.decL qde (EC.encL qde r5.2.2))).bind fun r6 =>
 (Option.bind q52 fun r7 =>
 (gdE (EC.isL qde (EC.encL qde r6.2))<|
 (some ((r6.1,(r7.1,r7.2)),(EC.decL qde (EC.encL qde r6.2))))))))) r4))))) r2)))))))))
 ((q4w 2 (-1)).bind fun r0 =>
 (some ((0,(r0.1,r0.2)),(EC.decL qde [])))))
theorem qfc {events zone from_ to_ r} (h:fbOf_t events zone from_ to_=some r):fbOf_s events zone from_ to_=some r :=
 qf4 (es:=q11r) (hs:=[]) [qfm,qfe] Tryz.func5 rfl (by kernel_rfl) rfl (by kernel_rfl) (by kernel_rfl) ⟨⟨_,rfl,rfl⟩,⟨_,rfl,rfl⟩,trivial⟩ trivial (by kernel_rfl) h
def fbOf_e:=entS Tryz.prog lv X1 5 [] qfa qfb (fun x=>fbOf_s x.1 x.2.1 x.2.2.1 x.2.2.2) (fun _ _ h=>qf3 h)
def q11t:=fbOf_e::q11r
def qqe:=(qni (vC (cSl qdg)) (qni (vC (cInt .i64)) (qni (vC (cInt .i64)) (qnk (vC (cInt .i64))))))
def qqo:=sLS [0,1,2,3,8,10,21,22,23] (qni (vC (cSl qdg)) (qni (vC (cInt .i64)) (qni (vC (cInt .i64)) (qni (vC (cInt .i64)) (qni (vPtr 0 0) (qni (vPtr 1 0) (qni (vC (cSl qdg)) (qni (vC (cInt .i64)) (qnk (vC (cInt .i64))))))))))) (qni (qt8 (bBox (qni (vC (cInt .i64)) (qnk (vC (cInt .i64)))))) (qnk (qt8 (bBox (qni (vC (cInt .i64)) (qnk (vC (cInt .i64)))))))) [false,false] [] (by decide) (fun _=>rfl)
def qqn:=sLS [0,1,2,3,8,10,21,22,23,24] (qni (vC (cSl qdg)) (qni (vC (cInt .i64)) (qni (vC (cInt .i64)) (qni (vC (cInt .i64)) (qni (vPtr 0 0) (qni (vPtr 1 0) (qni (vC (cSl qdg)) (qni (vC (cInt .i64)) (qni (vC (cInt .i64)) (qnk (vC cBool))))))))))) (qni (qt8 (bBox (qni (vC (cInt .i64)) (qnk (vC (cInt .i64)))))) (qnk (qt8 (bBox (qni (vC (cInt .i64)) (qnk (vC (cInt .i64)))))))) [false,false] [] (by decide) (fun _=>rfl)
def qqm:=sLS [8,9,10] (qni (vPtr 0 0) (qni (vC cBool) (qnk (vPtr 1 0)))) (qni (qt8 (bBox (qni (vC (cInt .i64)) (qnk (vC (cInt .i64)))))) (qnk (qt8 (bBox (qni (vC (cInt .i64)) (qnk (vC (cInt .i64)))))))) [false,false] [] (by decide) (fun _=>rfl)
def qql:=oOr 1 qqm (oAt 2 qqn) (fun x=>(by decide:(2:Nat)≠1))
def qqi (calendars:(List (List S24))) (length:Int) (from_:Int) (to_:Int) (t21:(List (List S24))) (t22:Int) (t23:Int) (b0:Int) (b0_1:Int) (b1:Int) (b1_1:Int):Option (((Unit×Bool×Unit)×((Int×Int)×(Int×Int)))⊕(((List (List S24))×Int×Int×Int×Unit×Unit×(List (List S24))×Int×Int×Bool)×((Int×Int)×(Int×Int)))):=lS Tryz.prog lv X1 6 76 (qix (cdF Tryz.f6) 4) qqo qql ((calendars,length,from_,to_,(),(),t21,t22,t23),((b0,b0_1),(b1,b1_1)))
def qqp (calendars:(List (List S24))) (length:Int) (from_:Int) (to_:Int) (t21:(List (List S24))) (t22:Int) (t23:Int) (b0:Int) (b0_1:Int) (b1:Int) (b1_1:Int):Option (((Unit×Bool×Unit)×((Int×Int)×(Int×Int)))⊕(((List (List S24))×Int×Int×Int×Unit×Unit×(List (List S24))×Int×Int×Bool)×((Int×Int)×(Int×Int)))) :=
 (brE (decide (t23<t22))
 (gdE (decide (0≤t23))<|
 (gdE ((decide ((Int.toNat t23)<(List.length (EC.encL qdg t21))))&&(isE [K1.sl] 0 (List.getD (EC.encL qdg t21) (Int.toNat t23) [])))<|
 (gdE (EC.isL qde (slOf (List.getD (List.getD (EC.encL qdg t21) (Int.toNat t23) []) 0 C.ne)))<|
 ((qhv (EC.decL qde (slOf (List.getD (List.getD (EC.encL qdg t21) (Int.toNat t23) []) 0 C.ne)))).bind fun r0 =>
 ((q4q r0.1 r0.2).bind fun r1 =>
 (brE r1
 ((q4w r0.1 t23).bind fun r2 =>
 (some (.inl (((),(false,())),((0,0),(r2.1,r2.2))))))
 (gdE (EC.isL qdg (EC.encL qdg calendars))<|
 (gdE (EC.isL qdg (EC.encL qdg t21))<|
 (qqi (EC.decL qdg (EC.encL qdg calendars)) length from_ to_ (EC.decL qdg (EC.encL qdg t21)) t22 (IntKind.wrap .i64 (t23+1)) b0 b0_1 b1 b1_1)))))))))
 (gdE (EC.isL qdg (EC.encL qdg calendars))<|
 (gdE (EC.isL qdg (EC.encL qdg t21))<|
 (some (.inr (((EC.decL qdg (EC.encL qdg calendars)),(length,(from_,(to_,((),((),((EC.decL qdg (EC.encL qdg t21)),(t22,(t23,false))))))))),((b0,b0_1),(b1,b1_1))))))))
theorem qqk {calendars length from_ to_ t21 t22 t23 b0 b0_1 b1 b1_1 r} (h:qqp calendars length from_ to_ t21 t22 t23 b0 b0_1 b1 b1_1=some r):qqi calendars length from_ to_ t21 t22 t23 b0 b0_1 b1 b1_1=some r :=
 qnm (es:=q11t) (hs:=[]) [] (by kernel_rfl) trivial trivial (by kernel_rfl) h
def qqj:=qp9 Tryz.prog lv X1 4 (qix (cdF Tryz.f6) 4) qqo qql (fun x=>qqi x.1.1 x.1.2.1 x.1.2.2.1 x.1.2.2.2.1 x.1.2.2.2.2.2.2.1 x.1.2.2.2.2.2.2.2.1 x.1.2.2.2.2.2.2.2.2 x.2.1.1 x.2.1.2 x.2.2.1 x.2.2.2) (fun _ _ h=>qnl h)
def qqf:Cod (V×List B) ((Int×Int)×Bool×(Int×Int)):=(cFstU (cPair (vTup (qni (vAgg (qni (vC (cInt .i64)) (qnk (vC (cInt .i64))))) (qni (vC cBool) (qnk (vAgg (qni (vC (cInt .i64)) (qnk (vC (cInt .i64))))))))) qnj))
def qqq (calendars:(List (List S24))) (length:Int) (from_:Int) (to_:Int):Option ((Int×Int)×Bool×(Int×Int)):=fS Tryz.prog lv X1 6 qqe qqf (calendars,length,from_,to_)
def qqr (calendars:(List (List S24))) (length:Int) (from_:Int) (to_:Int):Option ((Int×Int)×Bool×(Int×Int)) :=
 (brE (decide ((List.length (EC.encL qdg calendars):Int)>30))
 ((q4w 2 (-1)).bind fun r0 =>
 (some ((0,0),(false,(r0.1,r0.2)))))
 (gdE (EC.isL qdg (EC.encL qdg calendars))<|
 (gdE (EC.isL qdg (EC.encL qdg calendars))<|
 ((qqi (EC.decL qdg (EC.encL qdg calendars)) length from_ to_ (EC.decL qdg (EC.encL qdg calendars)) (List.length (EC.encL qdg calendars):Int) 0 0 0 0 0).bind fun r0 =>
 (Sum.elim (fun r1=>(some ((r1.2.1.1,r1.2.1.2),(r1.1.2.1,(r1.2.2.1,r1.2.2.2)))))
 (fun r1=>((qie r1.1.2.2.1 r1.1.2.2.2.1).bind fun r2 =>
 ((q4q r2.1 r2.2).bind fun r3 =>
 (brE r3
 (some ((0,0),(false,(r2.1,r2.2))))
 (brE ((decide (r1.1.2.1<1))==false)
 (brE (decide (r1.1.2.1>68719476736))
 ((q4w 3 (-3)).bind fun r4 =>
 (some ((0,0),(false,(r4.1,r4.2)))))
 (gdE (EC.isL qdg (EC.encL qdg r1.1.1))<|
 ((catS (EC.decL qdg (EC.encL qdg r1.1.1))).bind fun r4 =>
 (gdE (EC.isL qde (EC.encL qde r4.2))<|
 ((qi8 (EC.decL qde (EC.encL qde r4.2)) r1.1.2.2.1 r1.1.2.2.2.1 r1.1.2.1).bind fun r5 =>
 (brE (((r5.1:Nat):Int)==0)
 (Option.bind q52 fun r6 =>
 (some ((0,0),(false,(r6.1,r6.2)))))
 (gdE ((decide ((0:Int)≤0))&&(decide (0<((r5.1:Nat):Int))))<|
 (gdE ((decide ((Int.toNat 0)<(List.length (EC.encL qde r5.2))))&&((List.length (List.getD (EC.encL qde r5.2) (Int.toNat 0) []))==2))<|
 (gdE (isP [(K1.int Go.IntKind.i64)] 0 (List.getD (EC.encL qde r5.2) (Int.toNat 0) []))<|
 (gdE ((decide ((0:Int)≤0))&&(decide (0<((r5.1:Nat):Int))))<|
 (gdE ((decide ((Int.toNat 0)<(List.length (EC.encL qde r5.2))))&&((List.length (List.getD (EC.encL qde r5.2) (Int.toNat 0) []))==2))<|
 (gdE (isP [(K1.int Go.IntKind.i64)] 0 (List.getD (EC.encL qde r5.2) (Int.toNat 0) []))<|
 (Option.bind q52 fun r6 =>
 (some (((qm6 (List.getD (List.getD (EC.encL qde r5.2) (Int.toNat 0) []) 0 C.ne)),(IntKind.wrap .i64 ((qm6 (List.getD (List.getD (EC.encL qde r5.2) (Int.toNat 0) []) 0 C.ne))+r1.1.2.1))),(true,(r6.1,r6.2)))))))))))))))))
 ((q4w 3 (-3)).bind fun r4 =>
 (some ((0,0),(false,(r4.1,r4.2)))))))))) r0)))))
theorem qqh {calendars length from_ to_ r} (h:qqr calendars length from_ to_=some r):qqq calendars length from_ to_=some r :=
 qf4 (es:=q11t) (hs:=[]) [qqj] Tryz.func6 rfl (by kernel_rfl) rfl (by kernel_rfl) (by kernel_rfl) ⟨⟨_,rfl,rfl⟩,trivial⟩ trivial (by kernel_rfl) h
def qqg:=entS Tryz.prog lv X1 6 [] qqe qqf (fun x=>qqq x.1 x.2.1 x.2.2.1 x.2.2.2) (fun _ _ h=>qf3 h)
def q127:=qqg::q11t
def qro:=(qnk (vAgg (qni (vC (cInt .i64)) (qnk (vC (cInt .i64))))))
def qrp:Cod (V×List B) Bool:=(cFstU (cPair (vC cBool) qnj))
def qrs (p_From:Int) (p_To:Int):Option Bool:=fS Tryz.prog lv X1 24 qro qrp (p_From,p_To)
def qrt (p_From:Int) (p_To:Int):Option Bool :=
 (brE ((decide (p_From<p_To))==true)
 ((q58 p_From).bind fun r0 =>
 (brE (r0==true)
 ((q58 p_To).bind fun r1 =>
 (some r1))
 (some false)))
 (some false))
theorem qrr {p_From p_To r} (h:qrt p_From p_To=some r):qrs p_From p_To=some r :=
 qf4 (es:=q127) (hs:=[]) [] Tryz.func24 rfl (by kernel_rfl) rfl (by kernel_rfl) (by kernel_rfl) trivial trivial (by kernel_rfl) h
def qrq:=entS Tryz.prog lv X1 24 [] qro qrp (fun x=>qrs x.1 x.2) (fun _ _ h=>qf3 h)
def q12c:=qrq::q127
def qri:=(qnk (vC cStr))
def qrj:Cod (V×List B) Bool:=(cFstU (cPair (vC cBool) qnj))
def qrm (s:ByteArray):Option Bool:=fS Tryz.prog lv X1 57 qri qrj s
def qrn (s:ByteArray):Option Bool :=
 (brE ((decide ((s.size:Int)≥1))==true)
 (some (decide ((s.size:Int)≤4000)))
 (some false))
theorem qrl {s r} (h:qrn s=some r):qrm s=some r :=
 qf4 (es:=q12c) (hs:=[]) [] Tryz.func57 rfl (by kernel_rfl) rfl (by kernel_rfl) (by kernel_rfl) trivial trivial (by kernel_rfl) h
def qrk:=entS Tryz.prog lv X1 57 [] qri qrj (fun x=>qrm x) (fun _ _ h=>qf3 h)
def q12b:=qrk::q12c
def qje:=(qni (vAgg (qni (vC cStr) (qni (vC (cInt .i64)) (qni (vC (cInt .i64)) (qnk (vC (cInt .i64))))))) (qnk (vEptr (qni cStr (qni (cInt .i64) (qni (cInt .i64) (qnk (cInt .i64))))) 0)))
def qjf:Cod (V×List B) Bool:=(cFstU (cPair (vC cBool) qnj))
def qji (x_Address:ByteArray) (x_Answer:Int) (x_Offer_From:Int) (x_Offer_To:Int) (c1_0:ByteArray) (c1_1:Int) (c1_2:Int) (c1_3:Int):Option Bool:=fS Tryz.prog lv X1 99 qje qjf ((x_Address,x_Answer,x_Offer_From,x_Offer_To),(c1_0,c1_1,c1_2,c1_3))
def qjk (x_Address:ByteArray) (x_Answer:Int) (x_Offer_From:Int) (x_Offer_To:Int) (c1_0:ByteArray) (c1_1:Int) (c1_2:Int) (c1_3:Int):Option Bool :=
 (some (x_Address.toList==c1_0.toList))
theorem qjh {x_Address x_Answer x_Offer_From x_Offer_To c1_0 c1_1 c1_2 c1_3 r} (h:qjk x_Address x_Answer x_Offer_From x_Offer_To c1_0 c1_1 c1_2 c1_3=some r):qji x_Address x_Answer x_Offer_From x_Offer_To c1_0 c1_1 c1_2 c1_3=some r :=
 qf4 (es:=q12b) (hs:=[]) [] Tryz.func99 rfl (by kernel_rfl) rfl (by kernel_rfl) (by kernel_rfl) trivial trivial (by kernel_rfl) h
def qjg:=entS Tryz.prog lv X1 99 [] qje qjf (fun x=>qji x.1.1 x.1.2.1 x.1.2.2.1 x.1.2.2.2 x.2.1 x.2.2.1 x.2.2.2.1 x.2.2.2.2) (fun _ _ h=>qf3 h)
def q11y:=qjg::q12b
structure S43 where
 Address:ByteArray
 Answer:Int
 Offer_From:Int
 Offer_To:Int
def qdj:EC S43 where
 enc x:=[.str x.Address,.int .i64 x.Answer,.int .i64 x.Offer_From,.int .i64 x.Offer_To]
 dec c:=⟨q10v (c.getD 0 .ne),qm6 (c.getD 1 .ne),qm6 (c.getD 2 .ne),qm6 (c.getD 3 .ne)⟩
 is c:=isE [.str,.int .i64,.int .i64,.int .i64] 0 c
 enc_dec h:=qc1 h
 dec_enc x:=by rfl
 is_enc x:=by simp [isE,isK]
theorem qdr (x:S43):qdj.enc x=[.str x.Address,.int .i64 x.Answer,.int .i64 x.Offer_From,.int .i64 x.Offer_To]:=rfl
theorem qml (xs:List S43) (n:Nat):isE [.str,.int .i64,.int .i64,.int .i64] 0 ((qdj.encL xs).getD n [])=decide (n<xs.length):=by
 by_cases h:n<xs.length
 ·simp only [EC.getD_lt _ _ h];simp [qdr,isE,isK,h]
 ·simp only [EC.getD_ge _ _ (Nat.not_lt.1 h)];simp [isE,isK,h]
theorem q3h (xs:List S43) (n:Nat):q10v (((qdj.encL xs).getD n []).getD 0 .ne)=(xs.getD n (qdj.dec [])).Address:=by
 by_cases h:n<xs.length
 ·simp only [EC.getD_lt _ _ h];simp [qdr,h,q10v,qm6,q76,slOf,List.getD_eq_getElem?_getD]
 ·simp only [EC.getD_ge _ _ (Nat.not_lt.1 h)];simp [Nat.not_lt.1 h,qdj,q10v,qm6,q76,slOf,List.getD_eq_getElem?_getD,EC.decL,EC.encL]
theorem q3i (xs:List S43) (n:Nat):qm6 (((qdj.encL xs).getD n []).getD 1 .ne)=(xs.getD n (qdj.dec [])).Answer:=by
 by_cases h:n<xs.length
 ·simp only [EC.getD_lt _ _ h];simp [qdr,h,q10v,qm6,q76,slOf,List.getD_eq_getElem?_getD]
 ·simp only [EC.getD_ge _ _ (Nat.not_lt.1 h)];simp [Nat.not_lt.1 h,qdj,q10v,qm6,q76,slOf,List.getD_eq_getElem?_getD,EC.decL,EC.encL]
theorem q3j (xs:List S43) (n:Nat):qm6 (((qdj.encL xs).getD n []).getD 2 .ne)=(xs.getD n (qdj.dec [])).Offer_From:=by
 by_cases h:n<xs.length
 ·simp only [EC.getD_lt _ _ h];simp [qdr,h,q10v,qm6,q76,slOf,List.getD_eq_getElem?_getD]
 ·simp only [EC.getD_ge _ _ (Nat.not_lt.1 h)];simp [Nat.not_lt.1 h,qdj,q10v,qm6,q76,slOf,List.getD_eq_getElem?_getD,EC.decL,EC.encL]
theorem q3k (xs:List S43) (n:Nat):qm6 (((qdj.encL xs).getD n []).getD 3 .ne)=(xs.getD n (qdj.dec [])).Offer_To:=by
 by_cases h:n<xs.length
 ·simp only [EC.getD_lt _ _ h];simp [qdr,h,q10v,qm6,q76,slOf,List.getD_eq_getElem?_getD]
 ·simp only [EC.getD_ge _ _ (Nat.not_lt.1 h)];simp [Nat.not_lt.1 h,qdj,q10v,qm6,q76,slOf,List.getD_eq_getElem?_getD,EC.decL,EC.encL]
theorem lit_43 (a0:ByteArray) (a1:Int) (a2:Int) (a3:Int):([.str a0,.int .i64 a1,.int .i64 a2,.int .i64 a3]:List C)=qdj.enc (⟨a0,a1,a2,a3⟩:S43):=rfl
theorem q31 (xs:List S43) (a0:ByteArray) (a1:Int) (a2:Int) (a3:Int):qdj.encL xs++[[.str a0,.int .i64 a1,.int .i64 a2,.int .i64 a3]]=qdj.encL (xs++[(⟨a0,a1,a2,a3⟩:S43)]):=by rw [lit_43];simp [EC.encL]
theorem len_43 (xs:List S43) (n:Nat) (h:n<xs.length):((qdj.encL xs).getD n []).length=4:=by rw [EC.getD_lt _ _ h];rfl
theorem q2e (xs:List S43):(qdj.encL xs).all (fun (el:List C)=>el.length==4)=true:=by induction xs with|nil=>rfl|cons x xs ih=>first|(simp [EC.encL,qdr];done)|simpa [EC.encL,qdr] using ih
theorem qxn (xs:List S43) (n:Nat) (a0:ByteArray) (a1:Int) (a2:Int) (a3:Int):(qdj.encL xs).set n (splice ((qdj.encL xs).getD n []) 0 [.str a0,.int .i64 a1,.int .i64 a2,.int .i64 a3])=qdj.encL (xs.set n ({ xs.getD n (qdj.dec []) with Address:=a0,Answer:=a1,Offer_From:=a2,Offer_To:=a3 })):=by
 by_cases h:n<xs.length
 ·rw [EC.getD_lt _ _ h];simp [EC.encL,List.map_set,qdr,splice,List.getD_eq_getElem?_getD,h]
 ·simp [EC.encL,List.set_eq_of_length_le,Nat.not_lt.1 h]
theorem qxm (xs:List S43) (n:Nat) (a0:ByteArray):(qdj.encL xs).set n (splice ((qdj.encL xs).getD n []) 0 [.str a0])=qdj.encL (xs.set n ({ xs.getD n (qdj.dec []) with Address:=a0 })):=by
 by_cases h:n<xs.length
 ·rw [EC.getD_lt _ _ h];simp [EC.encL,List.map_set,qdr,splice,List.getD_eq_getElem?_getD,h]
 ·simp [EC.encL,List.set_eq_of_length_le,Nat.not_lt.1 h]
theorem qxo (xs:List S43) (n:Nat) (a1:Int):(qdj.encL xs).set n (splice ((qdj.encL xs).getD n []) 1 [.int .i64 a1])=qdj.encL (xs.set n ({ xs.getD n (qdj.dec []) with Answer:=a1 })):=by
 by_cases h:n<xs.length
 ·rw [EC.getD_lt _ _ h];simp [EC.encL,List.map_set,qdr,splice,List.getD_eq_getElem?_getD,h]
 ·simp [EC.encL,List.set_eq_of_length_le,Nat.not_lt.1 h]
theorem qxq (xs:List S43) (n:Nat) (a2:Int) (a3:Int):(qdj.encL xs).set n (splice ((qdj.encL xs).getD n []) 2 [.int .i64 a2,.int .i64 a3])=qdj.encL (xs.set n ({ xs.getD n (qdj.dec []) with Offer_From:=a2,Offer_To:=a3 })):=by
 by_cases h:n<xs.length
 ·rw [EC.getD_lt _ _ h];simp [EC.encL,List.map_set,qdr,splice,List.getD_eq_getElem?_getD,h]
 ·simp [EC.encL,List.set_eq_of_length_le,Nat.not_lt.1 h]
theorem qxp (xs:List S43) (n:Nat) (a2:Int):(qdj.encL xs).set n (splice ((qdj.encL xs).getD n []) 2 [.int .i64 a2])=qdj.encL (xs.set n ({ xs.getD n (qdj.dec []) with Offer_From:=a2 })):=by
 by_cases h:n<xs.length
 ·rw [EC.getD_lt _ _ h];simp [EC.encL,List.map_set,qdr,splice,List.getD_eq_getElem?_getD,h]
 ·simp [EC.encL,List.set_eq_of_length_le,Nat.not_lt.1 h]
theorem qxr (xs:List S43) (n:Nat) (a3:Int):(qdj.encL xs).set n (splice ((qdj.encL xs).getD n []) 3 [.int .i64 a3])=qdj.encL (xs.set n ({ xs.getD n (qdj.dec []) with Offer_To:=a3 })):=by
 by_cases h:n<xs.length
 ·rw [EC.getD_lt _ _ h];simp [EC.encL,List.map_set,qdr,splice,List.getD_eq_getElem?_getD,h]
 ·simp [EC.encL,List.set_eq_of_length_le,Nat.not_lt.1 h]
def qkc:=(qni (vC (cSl qdj)) (qnk (vFn 99 (qnk (vEptr (qni cStr (qni (cInt .i64) (qni (cInt .i64) (qnk (cInt .i64))))) 0)))))
def qkm:=sLS [0,1,7,8] (qni (vC (cSl qdj)) (qni (vFn 99 (qnk (vEptr (qni cStr (qni (cInt .i64) (qni (cInt .i64) (qnk (cInt .i64))))) 0))) (qni (vC (cInt .i64)) (qnk (vC (cInt .i64)))))) qnj [] [] (by decide) (fun _=>rfl)
def qkl:=sLS [0,1,7,8,9] (qni (vC (cSl qdj)) (qni (vFn 99 (qnk (vEptr (qni cStr (qni (cInt .i64) (qni (cInt .i64) (qnk (cInt .i64))))) 0))) (qni (vC (cInt .i64)) (qni (vC (cInt .i64)) (qnk (vC cBool)))))) qnj [] [] (by decide) (fun _=>rfl)
def qkk:=sLS [4] (qnk (vC (cInt .i64))) qnj [] [] (by decide) (fun _=>rfl)
def qkj:=oOr 1 qkk (oAt 2 qkl) (fun x=>(by decide:(2:Nat)≠1))
def qkg (s:(List S43)) (f:ByteArray) (f_1:Int) (f_2:Int) (f_3:Int) (t7:Int) (t8:Int):Option ((Int×Unit)⊕(((List S43)×(ByteArray×Int×Int×Int)×Int×Int×Bool)×Unit)):=lS Tryz.prog lv X1 27 19 (qix (cdF Tryz.f27) 2) qkm qkj ((s,(f,f_1,f_2,f_3),t7,t8),())
def qkn (s:(List S43)) (f:ByteArray) (f_1:Int) (f_2:Int) (f_3:Int) (t7:Int) (t8:Int):Option ((Int×Unit)⊕(((List S43)×(ByteArray×Int×Int×Int)×Int×Int×Bool)×Unit)) :=
 (brE (decide (t8<t7))
 (gdE (decide (0≤t8))<|
 (gdE ((decide ((Int.toNat t8)<(List.length (EC.encL qdj s))))&&(isE [K1.str,(K1.int Go.IntKind.i64),(K1.int Go.IntKind.i64),(K1.int Go.IntKind.i64)] 0 (List.getD (EC.encL qdj s) (Int.toNat t8) [])))<|
 ((qji (q10v (List.getD (List.getD (EC.encL qdj s) (Int.toNat t8) []) 0 C.ne)) (qm6 (List.getD (List.getD (EC.encL qdj s) (Int.toNat t8) []) 1 C.ne)) (qm6 (List.getD (List.getD (EC.encL qdj s) (Int.toNat t8) []) 2 C.ne)) (qm6 (List.getD (List.getD (EC.encL qdj s) (Int.toNat t8) []) 3 C.ne)) f f_1 f_2 f_3).bind fun r0 =>
 (brE r0
 (some (.inl (t8,())))
 (gdE (EC.isL qdj (EC.encL qdj s))<|
 (qkg (EC.decL qdj (EC.encL qdj s)) f f_1 f_2 f_3 t7 (IntKind.wrap .i64 (t8+1))))))))
 (gdE (EC.isL qdj (EC.encL qdj s))<|
 (some (.inr (((EC.decL qdj (EC.encL qdj s)),((f,(f_1,(f_2,f_3))),(t7,(t8,false)))),())))))
theorem qki {s f f_1 f_2 f_3 t7 t8 r} (h:qkn s f f_1 f_2 f_3 t7 t8=some r):qkg s f f_1 f_2 f_3 t7 t8=some r :=
 qnm (es:=q11y) (hs:=[]) [] (by kernel_rfl) trivial trivial (by kernel_rfl) h
def qkh:=qp9 Tryz.prog lv X1 2 (qix (cdF Tryz.f27) 2) qkm qkj (fun x=>qkg x.1.1 x.1.2.1.1 x.1.2.1.2.1 x.1.2.1.2.2.1 x.1.2.1.2.2.2 x.1.2.2.1 x.1.2.2.2) (fun _ _ h=>qnl h)
def qkd:Cod (V×List B) Int:=(cFstU (cPair (vC (cInt .i64)) qnj))
def qkp (s:(List S43)) (f_0:ByteArray) (f_1:Int) (f_2:Int) (f_3:Int):Option Int:=fS Tryz.prog lv X1 27 qkc qkd (s,(f_0,f_1,f_2,f_3))
def qkr (s:(List S43)) (f_0:ByteArray) (f_1:Int) (f_2:Int) (f_3:Int):Option Int :=
 (gdE (EC.isL qdj (EC.encL qdj s))<|
 ((qkg (EC.decL qdj (EC.encL qdj s)) f_0 f_1 f_2 f_3 (List.length (EC.encL qdj s):Int) 0).bind fun r0 =>
 (Sum.elim (fun r1=>(some r1.1))
 (fun r1=>(some (-1:Int))) r0)))
theorem qkf {s f_0 f_1 f_2 f_3 r} (h:qkr s f_0 f_1 f_2 f_3=some r):qkp s f_0 f_1 f_2 f_3=some r :=
 qf4 (es:=q11y) (hs:=[]) [qkh] Tryz.func27 rfl (by kernel_rfl) rfl (by kernel_rfl) (by kernel_rfl) ⟨⟨_,rfl,rfl⟩,trivial⟩ trivial (by kernel_rfl) h
def qke:=entS Tryz.prog lv X1 27 [99] qkc qkd (fun x=>qkp x.1 x.2.1 x.2.2.1 x.2.2.2.1 x.2.2.2.2) (fun _ _ h=>qf3 h)
def q121:=qke::q11y
def qjn:=(qni (vC (cSl qdj)) (qnk (vFn 99 (qnk (vEptr (qni cStr (qni (cInt .i64) (qni (cInt .i64) (qnk (cInt .i64))))) 0)))))
def qjo:Cod (V×List B) Bool:=(cFstU (cPair (vC cBool) qnj))
def qjr (s:(List S43)) (f_0:ByteArray) (f_1:Int) (f_2:Int) (f_3:Int):Option Bool:=fS Tryz.prog lv X1 31 qjn qjo (s,(f_0,f_1,f_2,f_3))
def qjt (s:(List S43)) (f_0:ByteArray) (f_1:Int) (f_2:Int) (f_3:Int):Option Bool :=
 (gdE (EC.isL qdj (EC.encL qdj s))<|
 ((qkp (EC.decL qdj (EC.encL qdj s)) f_0 f_1 f_2 f_3).bind fun r0 =>
 (some (decide (r0≥0)))))
theorem qjq {s f_0 f_1 f_2 f_3 r} (h:qjt s f_0 f_1 f_2 f_3=some r):qjr s f_0 f_1 f_2 f_3=some r :=
 qf4 (es:=q121) (hs:=[]) [] Tryz.func31 rfl (by kernel_rfl) rfl (by kernel_rfl) (by kernel_rfl) trivial trivial (by kernel_rfl) h
def qjp:=entS Tryz.prog lv X1 31 [99] qjn qjo (fun x=>qjr x.1 x.2.1 x.2.2.1 x.2.2.2.1 x.2.2.2.2) (fun _ _ h=>qf3 h)
def q11z:=qjp::q121
def qrc:=(qni (vAgg (qni (vC cStr) (qni (vC (cSl qdj)) (qni (vC (cInt .i64)) (qni (vC (cInt .i64)) (qni (vC (cInt .i64)) (qnk (vC cBool)))))))) (qnk (vC (cInt .i64))))
def qrd:Cod (V×List B) Int:=(cFstU (cPair (vC (cInt .i64)) qnj))
def qrg (m_Organizer:ByteArray) (m_Guests:(List S43)) (m_Round:Int) (m_Proposed_From:Int) (m_Proposed_To:Int) (m_Cancelled:Bool) (i:Int):Option Int:=fS Tryz.prog lv X1 58 qrc qrd ((m_Organizer,m_Guests,m_Round,m_Proposed_From,m_Proposed_To,m_Cancelled),i)
def qrh (m_Organizer:ByteArray) (m_Guests:(List S43)) (m_Round:Int) (m_Proposed_From:Int) (m_Proposed_To:Int) (m_Cancelled:Bool) (i:Int):Option Int :=
 (gdE (decide (0≤i))<|
 (gdE ((decide ((Int.toNat i)<(List.length (EC.encL qdj m_Guests))))&&(isE [K1.str,(K1.int Go.IntKind.i64),(K1.int Go.IntKind.i64),(K1.int Go.IntKind.i64)] 0 (List.getD (EC.encL qdj m_Guests) (Int.toNat i) [])))<|
 ((qrm (q10v (List.getD (List.getD (EC.encL qdj m_Guests) (Int.toNat i) []) 0 C.ne))).bind fun r0 =>
 (brE (!r0)
 (some 10)
 (brE ((decide ((qm6 (List.getD (List.getD (EC.encL qdj m_Guests) (Int.toNat i) []) 1 C.ne))<0))==false)
 (brE (decide ((qm6 (List.getD (List.getD (EC.encL qdj m_Guests) (Int.toNat i) []) 1 C.ne))>3))
 (some 3)
 (brE ((m_Round==0)==true)
 (brE (((qm6 (List.getD (List.getD (EC.encL qdj m_Guests) (Int.toNat i) []) 1 C.ne)) != 0)==false)
 (brE (((qm6 (List.getD (List.getD (EC.encL qdj m_Guests) (Int.toNat i) []) 1 C.ne))==3)==true)
 ((qrs (qm6 (List.getD (List.getD (EC.encL qdj m_Guests) (Int.toNat i) []) 2 C.ne)) (qm6 (List.getD (List.getD (EC.encL qdj m_Guests) (Int.toNat i) []) 3 C.ne))).bind fun r1 =>
 (brE ((!r1)==false)
 (brE ((!((qm6 (List.getD (List.getD (EC.encL qdj m_Guests) (Int.toNat i) []) 1 C.ne))==3))==true)
 (brE (!(((qm6 (List.getD (List.getD (EC.encL qdj m_Guests) (Int.toNat i) []) 2 C.ne))==0)&&(((qm6 (List.getD (List.getD (EC.encL qdj m_Guests) (Int.toNat i) []) 3 C.ne))==0)&&true)))
 (some 5)
 (brE (((ByteArray.toList (q10v (List.getD (List.getD (EC.encL qdj m_Guests) (Int.toNat i) []) 0 C.ne)))==m_Organizer.toList)==false)
 (gdE ((decide (0≤i))&&(decide (i≤(List.length (EC.encL qdj m_Guests):Int))))<|
 (gdE (List.all (EC.encL qdj m_Guests) (fun (el:(List C))=>((List.length el)==4)))<|
 (gdE (EC.isL qdj (List.take ((Int.toNat i) - 0) (List.drop 0 (EC.encL qdj m_Guests))))<|
 ((qjr (EC.decL qdj (List.take ((Int.toNat i) - 0) (List.drop 0 (EC.encL qdj m_Guests)))) (q10v (List.getD (List.getD (EC.encL qdj m_Guests) (Int.toNat i) []) 0 C.ne)) (qm6 (List.getD (List.getD (EC.encL qdj m_Guests) (Int.toNat i) []) 1 C.ne)) (qm6 (List.getD (List.getD (EC.encL qdj m_Guests) (Int.toNat i) []) 2 C.ne)) (qm6 (List.getD (List.getD (EC.encL qdj m_Guests) (Int.toNat i) []) 3 C.ne))).bind fun r2 =>
 (brE r2
 (some 7)
 (some 0))))))
 (some 7)))
 (brE (((ByteArray.toList (q10v (List.getD (List.getD (EC.encL qdj m_Guests) (Int.toNat i) []) 0 C.ne)))==m_Organizer.toList)==false)
 (gdE ((decide (0≤i))&&(decide (i≤(List.length (EC.encL qdj m_Guests):Int))))<|
 (gdE (List.all (EC.encL qdj m_Guests) (fun (el:(List C))=>((List.length el)==4)))<|
 (gdE (EC.isL qdj (List.take ((Int.toNat i) - 0) (List.drop 0 (EC.encL qdj m_Guests))))<|
 ((qjr (EC.decL qdj (List.take ((Int.toNat i) - 0) (List.drop 0 (EC.encL qdj m_Guests)))) (q10v (List.getD (List.getD (EC.encL qdj m_Guests) (Int.toNat i) []) 0 C.ne)) (qm6 (List.getD (List.getD (EC.encL qdj m_Guests) (Int.toNat i) []) 1 C.ne)) (qm6 (List.getD (List.getD (EC.encL qdj m_Guests) (Int.toNat i) []) 2 C.ne)) (qm6 (List.getD (List.getD (EC.encL qdj m_Guests) (Int.toNat i) []) 3 C.ne))).bind fun r2 =>
 (brE r2
 (some 7)
 (some 0))))))
 (some 7)))
 (some 5)))
 (brE ((!((qm6 (List.getD (List.getD (EC.encL qdj m_Guests) (Int.toNat i) []) 1 C.ne))==3))==true)
 (brE (!(((qm6 (List.getD (List.getD (EC.encL qdj m_Guests) (Int.toNat i) []) 2 C.ne))==0)&&(((qm6 (List.getD (List.getD (EC.encL qdj m_Guests) (Int.toNat i) []) 3 C.ne))==0)&&true)))
 (some 5)
 (brE (((ByteArray.toList (q10v (List.getD (List.getD (EC.encL qdj m_Guests) (Int.toNat i) []) 0 C.ne)))==m_Organizer.toList)==false)
 (gdE ((decide (0≤i))&&(decide (i≤(List.length (EC.encL qdj m_Guests):Int))))<|
 (gdE (List.all (EC.encL qdj m_Guests) (fun (el:(List C))=>((List.length el)==4)))<|
 (gdE (EC.isL qdj (List.take ((Int.toNat i) - 0) (List.drop 0 (EC.encL qdj m_Guests))))<|
 ((qjr (EC.decL qdj (List.take ((Int.toNat i) - 0) (List.drop 0 (EC.encL qdj m_Guests)))) (q10v (List.getD (List.getD (EC.encL qdj m_Guests) (Int.toNat i) []) 0 C.ne)) (qm6 (List.getD (List.getD (EC.encL qdj m_Guests) (Int.toNat i) []) 1 C.ne)) (qm6 (List.getD (List.getD (EC.encL qdj m_Guests) (Int.toNat i) []) 2 C.ne)) (qm6 (List.getD (List.getD (EC.encL qdj m_Guests) (Int.toNat i) []) 3 C.ne))).bind fun r1 =>
 (brE r1
 (some 7)
 (some 0))))))
 (some 7)))
 (brE (((ByteArray.toList (q10v (List.getD (List.getD (EC.encL qdj m_Guests) (Int.toNat i) []) 0 C.ne)))==m_Organizer.toList)==false)
 (gdE ((decide (0≤i))&&(decide (i≤(List.length (EC.encL qdj m_Guests):Int))))<|
 (gdE (List.all (EC.encL qdj m_Guests) (fun (el:(List C))=>((List.length el)==4)))<|
 (gdE (EC.isL qdj (List.take ((Int.toNat i) - 0) (List.drop 0 (EC.encL qdj m_Guests))))<|
 ((qjr (EC.decL qdj (List.take ((Int.toNat i) - 0) (List.drop 0 (EC.encL qdj m_Guests)))) (q10v (List.getD (List.getD (EC.encL qdj m_Guests) (Int.toNat i) []) 0 C.ne)) (qm6 (List.getD (List.getD (EC.encL qdj m_Guests) (Int.toNat i) []) 1 C.ne)) (qm6 (List.getD (List.getD (EC.encL qdj m_Guests) (Int.toNat i) []) 2 C.ne)) (qm6 (List.getD (List.getD (EC.encL qdj m_Guests) (Int.toNat i) []) 3 C.ne))).bind fun r1 =>
 (brE r1
 (some 7)
 (some 0))))))
 (some 7))))
 (some 5))
 (brE (((qm6 (List.getD (List.getD (EC.encL qdj m_Guests) (Int.toNat i) []) 1 C.ne))==3)==true)
 ((qrs (qm6 (List.getD (List.getD (EC.encL qdj m_Guests) (Int.toNat i) []) 2 C.ne)) (qm6 (List.getD (List.getD (EC.encL qdj m_Guests) (Int.toNat i) []) 3 C.ne))).bind fun r1 =>
 (brE ((!r1)==false)
 (brE ((!((qm6 (List.getD (List.getD (EC.encL qdj m_Guests) (Int.toNat i) []) 1 C.ne))==3))==true)
 (brE (!(((qm6 (List.getD (List.getD (EC.encL qdj m_Guests) (Int.toNat i) []) 2 C.ne))==0)&&(((qm6 (List.getD (List.getD (EC.encL qdj m_Guests) (Int.toNat i) []) 3 C.ne))==0)&&true)))
 (some 5)
 (brE (((ByteArray.toList (q10v (List.getD (List.getD (EC.encL qdj m_Guests) (Int.toNat i) []) 0 C.ne)))==m_Organizer.toList)==false)
 (gdE ((decide (0≤i))&&(decide (i≤(List.length (EC.encL qdj m_Guests):Int))))<|
 (gdE (List.all (EC.encL qdj m_Guests) (fun (el:(List C))=>((List.length el)==4)))<|
 (gdE (EC.isL qdj (List.take ((Int.toNat i) - 0) (List.drop 0 (EC.encL qdj m_Guests))))<|
 ((qjr (EC.decL qdj (List.take ((Int.toNat i) - 0) (List.drop 0 (EC.encL qdj m_Guests)))) (q10v (List.getD (List.getD (EC.encL qdj m_Guests) (Int.toNat i) []) 0 C.ne)) (qm6 (List.getD (List.getD (EC.encL qdj m_Guests) (Int.toNat i) []) 1 C.ne)) (qm6 (List.getD (List.getD (EC.encL qdj m_Guests) (Int.toNat i) []) 2 C.ne)) (qm6 (List.getD (List.getD (EC.encL qdj m_Guests) (Int.toNat i) []) 3 C.ne))).bind fun r2 =>
 (brE r2
 (some 7)
 (some 0))))))
 (some 7)))
 (brE (((ByteArray.toList (q10v (List.getD (List.getD (EC.encL qdj m_Guests) (Int.toNat i) []) 0 C.ne)))==m_Organizer.toList)==false)
 (gdE ((decide (0≤i))&&(decide (i≤(List.length (EC.encL qdj m_Guests):Int))))<|
 (gdE (List.all (EC.encL qdj m_Guests) (fun (el:(List C))=>((List.length el)==4)))<|
 (gdE (EC.isL qdj (List.take ((Int.toNat i) - 0) (List.drop 0 (EC.encL qdj m_Guests))))<|
 ((qjr (EC.decL qdj (List.take ((Int.toNat i) - 0) (List.drop 0 (EC.encL qdj m_Guests)))) (q10v (List.getD (List.getD (EC.encL qdj m_Guests) (Int.toNat i) []) 0 C.ne)) (qm6 (List.getD (List.getD (EC.encL qdj m_Guests) (Int.toNat i) []) 1 C.ne)) (qm6 (List.getD (List.getD (EC.encL qdj m_Guests) (Int.toNat i) []) 2 C.ne)) (qm6 (List.getD (List.getD (EC.encL qdj m_Guests) (Int.toNat i) []) 3 C.ne))).bind fun r2 =>
 (brE r2
 (some 7)
 (some 0))))))
 (some 7)))
 (some 5)))
 (brE ((!((qm6 (List.getD (List.getD (EC.encL qdj m_Guests) (Int.toNat i) []) 1 C.ne))==3))==true)
 (brE (!(((qm6 (List.getD (List.getD (EC.encL qdj m_Guests) (Int.toNat i) []) 2 C.ne))==0)&&(((qm6 (List.getD (List.getD (EC.encL qdj m_Guests) (Int.toNat i) []) 3 C.ne))==0)&&true)))
 (some 5)
 (brE (((ByteArray.toList (q10v (List.getD (List.getD (EC.encL qdj m_Guests) (Int.toNat i) []) 0 C.ne)))==m_Organizer.toList)==false)
 (gdE ((decide (0≤i))&&(decide (i≤(List.length (EC.encL qdj m_Guests):Int))))<|
 (gdE (List.all (EC.encL qdj m_Guests) (fun (el:(List C))=>((List.length el)==4)))<|
 (gdE (EC.isL qdj (List.take ((Int.toNat i) - 0) (List.drop 0 (EC.encL qdj m_Guests))))<|
 ((qjr (EC.decL qdj (List.take ((Int.toNat i) - 0) (List.drop 0 (EC.encL qdj m_Guests)))) (q10v (List.getD (List.getD (EC.encL qdj m_Guests) (Int.toNat i) []) 0 C.ne)) (qm6 (List.getD (List.getD (EC.encL qdj m_Guests) (Int.toNat i) []) 1 C.ne)) (qm6 (List.getD (List.getD (EC.encL qdj m_Guests) (Int.toNat i) []) 2 C.ne)) (qm6 (List.getD (List.getD (EC.encL qdj m_Guests) (Int.toNat i) []) 3 C.ne))).bind fun r1 =>
 (brE r1
 (some 7)
 (some 0))))))
 (some 7)))
 (brE (((ByteArray.toList (q10v (List.getD (List.getD (EC.encL qdj m_Guests) (Int.toNat i) []) 0 C.ne)))==m_Organizer.toList)==false)
 (gdE ((decide (0≤i))&&(decide (i≤(List.length (EC.encL qdj m_Guests):Int))))<|
 (gdE (List.all (EC.encL qdj m_Guests) (fun (el:(List C))=>((List.length el)==4)))<|
 (gdE (EC.isL qdj (List.take ((Int.toNat i) - 0) (List.drop 0 (EC.encL qdj m_Guests))))<|
 ((qjr (EC.decL qdj (List.take ((Int.toNat i) - 0) (List.drop 0 (EC.encL qdj m_Guests)))) (q10v (List.getD (List.getD (EC.encL qdj m_Guests) (Int.toNat i) []) 0 C.ne)) (qm6 (List.getD (List.getD (EC.encL qdj m_Guests) (Int.toNat i) []) 1 C.ne)) (qm6 (List.getD (List.getD (EC.encL qdj m_Guests) (Int.toNat i) []) 2 C.ne)) (qm6 (List.getD (List.getD (EC.encL qdj m_Guests) (Int.toNat i) []) 3 C.ne))).bind fun r1 =>
 (brE r1
 (some 7)
 (some 0))))))
 (some 7))))))
 (some 3))))))
theorem qrf {m_Organizer m_Guests m_Round m_Proposed_From m_Proposed_To m_Cancelled i r} (h:qrh m_Organizer m_Guests m_Round m_Proposed_From m_Proposed_To m_Cancelled i=some r):qrg m_Organizer m_Guests m_Round m_Proposed_From m_Proposed_To m_Cancelled i=some r :=
 qf4 (es:=q11z) (hs:=[]) [] Tryz.func58 rfl (by kernel_rfl) rfl (by kernel_rfl) (by kernel_rfl) trivial trivial (by kernel_rfl) h
def qre:=entS Tryz.prog lv X1 58 [] qrc qrd (fun x=>qrg x.1.1 x.1.2.1 x.1.2.2.1 x.1.2.2.2.1 x.1.2.2.2.2.1 x.1.2.2.2.2.2 x.2) (fun _ _ h=>qf3 h)
def q12a:=qre::q11z
def qqy:=(qnk (vAgg (qni (vC cStr) (qni (vC (cSl qdj)) (qni (vC (cInt .i64)) (qni (vC (cInt .i64)) (qni (vC (cInt .i64)) (qnk (vC cBool)))))))))
def qr8:=sLS [1,2,57,58] (qni (vPtr 0 0) (qni (vPtr 1 0) (qni (vC (cInt .i64)) (qnk (vC (cInt .i64)))))) (qni (qt8 (bBox (qni (vC cStr) (qni (vC (cSl qdj)) (qni (vC (cInt .i64)) (qni (vC (cInt .i64)) (qni (vC (cInt .i64)) (qnk (vC cBool))))))))) (qnk (qt8 (bBox (qni (vC (cInt .i64)) (qnk (vC (cInt .i64)))))))) [false,false] [] (by decide) (fun _=>rfl)
def qr7:=sLS [1,2,57,58,59] (qni (vPtr 0 0) (qni (vPtr 1 0) (qni (vC (cInt .i64)) (qni (vC (cInt .i64)) (qnk (vC cBool)))))) (qni (qt8 (bBox (qni (vC cStr) (qni (vC (cSl qdj)) (qni (vC (cInt .i64)) (qni (vC (cInt .i64)) (qni (vC (cInt .i64)) (qnk (vC cBool))))))))) (qnk (qt8 (bBox (qni (vC (cInt .i64)) (qnk (vC (cInt .i64)))))))) [false,false] [] (by decide) (fun _=>rfl)
def qr6:=sLS [2] (qnk (vPtr 0 0)) (qnk (qt8 (bBox (qni (vC (cInt .i64)) (qnk (vC (cInt .i64))))))) [false] [] (by decide) (fun _=>rfl)
def qr5:=oOr 1 qr6 (oAt 3 qr7) (fun x=>(by decide:(3:Nat)≠1))
def qr2 (t57:Int) (t58:Int) (b0:ByteArray) (b0_1:(List S43)) (b0_2:Int) (b0_3:Int) (b0_4:Int) (b0_5:Bool) (b1:Int) (b1_1:Int):Option ((Unit×(Int×Int))⊕((Unit×Unit×Int×Int×Bool)×((ByteArray×(List S43)×Int×Int×Int×Bool)×(Int×Int)))):=lS Tryz.prog lv X1 26 71 (qix (cdF Tryz.f26) 10) qr8 qr5 (((),(),t57,t58),((b0,b0_1,b0_2,b0_3,b0_4,b0_5),(b1,b1_1)))
def qr9 (t57:Int) (t58:Int) (b0:ByteArray) (b0_1:(List S43)) (b0_2:Int) (b0_3:Int) (b0_4:Int) (b0_5:Bool) (b1:Int) (b1_1:Int):Option ((Unit×(Int×Int))⊕((Unit×Unit×Int×Int×Bool)×((ByteArray×(List S43)×Int×Int×Int×Bool)×(Int×Int)))) :=
 (brE (decide (t58<t57))
 (gdE (EC.isL qdj (EC.encL qdj b0_1))<|
 ((qrg b0 (EC.decL qdj (EC.encL qdj b0_1)) b0_2 b0_3 b0_4 b0_5 t58).bind fun r0 =>
 (brE (r0 != 0)
 ((q4w r0 t58).bind fun r1 =>
 (some (.inl ((),(r1.1,r1.2)))))
 (gdE (EC.isL qdj (EC.encL qdj b0_1))<|
 (qr2 t57 (IntKind.wrap .i64 (t58+1)) b0 (EC.decL qdj (EC.encL qdj b0_1)) b0_2 b0_3 b0_4 b0_5 b1 b1_1)))))
 (gdE (EC.isL qdj (EC.encL qdj b0_1))<|
 (some (.inr (((),((),(t57,(t58,false)))),((b0,((EC.decL qdj (EC.encL qdj b0_1)),(b0_2,(b0_3,(b0_4,b0_5))))),(b1,b1_1)))))))
theorem qr4 {t57 t58 b0 b0_1 b0_2 b0_3 b0_4 b0_5 b1 b1_1 r} (h:qr9 t57 t58 b0 b0_1 b0_2 b0_3 b0_4 b0_5 b1 b1_1=some r):qr2 t57 t58 b0 b0_1 b0_2 b0_3 b0_4 b0_5 b1 b1_1=some r :=
 qnm (es:=q12a) (hs:=[]) [] (by kernel_rfl) trivial trivial (by kernel_rfl) h
def qr3:=qp9 Tryz.prog lv X1 10 (qix (cdF Tryz.f26) 10) qr8 qr5 (fun x=>qr2 x.1.2.2.1 x.1.2.2.2 x.2.1.1 x.2.1.2.1 x.2.1.2.2.1 x.2.1.2.2.2.1 x.2.1.2.2.2.2.1 x.2.1.2.2.2.2.2 x.2.2.1 x.2.2.2) (fun _ _ h=>qnl h)
def qqz:Cod (V×List B) (Int×Int):=(cFstU (cPair (vAgg (qni (vC (cInt .i64)) (qnk (vC (cInt .i64))))) qnj))
def qra (m_Organizer:ByteArray) (m_Guests:(List S43)) (m_Round:Int) (m_Proposed_From:Int) (m_Proposed_To:Int) (m_Cancelled:Bool):Option (Int×Int):=fS Tryz.prog lv X1 26 qqy qqz (m_Organizer,m_Guests,m_Round,m_Proposed_From,m_Proposed_To,m_Cancelled)
def qrb (m_Organizer:ByteArray) (m_Guests:(List S43)) (m_Round:Int) (m_Proposed_From:Int) (m_Proposed_To:Int) (m_Cancelled:Bool):Option (Int×Int) :=
 ((qrm m_Organizer).bind fun r0 =>
 (brE (!r0)
 ((q4w 10 (-2)).bind fun r1 =>
 (some (r1.1,r1.2)))
 (brE ((decide ((List.length (EC.encL qdj m_Guests):Int)<1))==false)
 (brE (decide ((List.length (EC.encL qdj m_Guests):Int)>30))
 ((q4w 2 (-1)).bind fun r1 =>
 (some (r1.1,r1.2)))
 (brE ((decide (m_Round<0))==false)
 (brE (decide (m_Round>1000000))
 ((q4w 3 (-3)).bind fun r1 =>
 (some (r1.1,r1.2)))
 (brE ((decide (m_Round>0))==true)
 ((qrs m_Proposed_From m_Proposed_To).bind fun r1 =>
 (brE ((!r1)==false)
 (brE ((m_Round==0)==true)
 (brE (!((m_Proposed_From==0)&&((m_Proposed_To==0)&&true)))
 ((q4w 5 (-3)).bind fun r2 =>
 (some (r2.1,r2.2)))
 (gdE (EC.isL qdj (EC.encL qdj m_Guests))<|
 ((qr2 (List.length (EC.encL qdj m_Guests):Int) 0 m_Organizer (EC.decL qdj (EC.encL qdj m_Guests)) m_Round m_Proposed_From m_Proposed_To m_Cancelled 0 0).bind fun r2 =>
 (Sum.elim (fun r3=>(some (r3.2.1,r3.2.2)))
 (fun r3=>(Option.bind q52 fun r4 =>
 (some (r4.1,r4.2)))) r2))))
 (gdE (EC.isL qdj (EC.encL qdj m_Guests))<|
 ((qr2 (List.length (EC.encL qdj m_Guests):Int) 0 m_Organizer (EC.decL qdj (EC.encL qdj m_Guests)) m_Round m_Proposed_From m_Proposed_To m_Cancelled 0 0).bind fun r2 =>
 (Sum.elim (fun r3=>(some (r3.2.1,r3.2.2)))
 (fun r3=>(Option.bind q52 fun r4 =>
 (some (r4.1,r4.2)))) r2))))
 ((q4w 5 (-3)).bind fun r2 =>
 (some (r2.1,r2.2)))))
 (brE ((m_Round==0)==true)
 (brE (!((m_Proposed_From==0)&&((m_Proposed_To==0)&&true)))
 ((q4w 5 (-3)).bind fun r1 =>
 (some (r1.1,r1.2)))
 (gdE (EC.isL qdj (EC.encL qdj m_Guests))<|
 ((qr2 (List.length (EC.encL qdj m_Guests):Int) 0 m_Organizer (EC.decL qdj (EC.encL qdj m_Guests)) m_Round m_Proposed_From m_Proposed_To m_Cancelled 0 0).bind fun r1 =>
 (Sum.elim (fun r2=>(some (r2.2.1,r2.2.2)))
 (fun r2=>(Option.bind q52 fun r3 =>
 (some (r3.1,r3.2)))) r1))))
 (gdE (EC.isL qdj (EC.encL qdj m_Guests))<|
 ((qr2 (List.length (EC.encL qdj m_Guests):Int) 0 m_Organizer (EC.decL qdj (EC.encL qdj m_Guests)) m_Round m_Proposed_From m_Proposed_To m_Cancelled 0 0).bind fun r1 =>
 (Sum.elim (fun r2=>(some (r2.2.1,r2.2.2)))
 (fun r2=>(Option.bind q52 fun r3 =>
 (some (r3.1,r3.2)))) r1))))))
 ((q4w 3 (-3)).bind fun r1 =>
 (some (r1.1,r1.2)))))
 ((q4w 2 (-1)).bind fun r1 =>
 (some (r1.1,r1.2))))))
theorem qr1 {m_Organizer m_Guests m_Round m_Proposed_From m_Proposed_To m_Cancelled r} (h:qrb m_Organizer m_Guests m_Round m_Proposed_From m_Proposed_To m_Cancelled=some r):qra m_Organizer m_Guests m_Round m_Proposed_From m_Proposed_To m_Cancelled=some r :=
 qf4 (es:=q12a) (hs:=[]) [qr3] Tryz.func26 rfl (by kernel_rfl) rfl (by kernel_rfl) (by kernel_rfl) ⟨⟨_,rfl,rfl⟩,trivial⟩ trivial (by kernel_rfl) h
def qr0:=entS Tryz.prog lv X1 26 [] qqy qqz (fun x=>qra x.1 x.2.1 x.2.2.1 x.2.2.2.1 x.2.2.2.2.1 x.2.2.2.2.2) (fun _ _ h=>qf3 h)
def q129:=qr0::q12a
def q9r:=(qnk (vC (cSl qdj)))
def q9s:Cod (V×List B) (Nat×(List S43)):=(cPair (vRow 0) (qnk (bRow qdj)))
def q9w (s:(List S43)):Option (Nat×(List S43)):=fS Tryz.prog lv X1 29 q9r q9s s
def q9x (s:(List S43)):Option (Nat×(List S43)) :=
 (gdE (!(List.isEmpty (EC.encL qdj s)))<|
 (gdE (((List.all (EC.encL qdj s) (fun (el:(List C))=>((List.length el)==4)))&&(decide (((((List.length (EC.encL qdj s))+((List.length (EC.encL qdj s)) / 4))+192)*40)≤281474976710656)))&&(decide ((List.length (EC.encL qdj s))≤9223372036854775807)))<|
 (gdE (EC.isL qdj (EC.encL qdj s))<|
 (some ((List.length (EC.encL qdj s)),(EC.decL qdj (EC.encL qdj s)))))))
theorem q9u {s r} (h:q9x s=some r):q9w s=some r:=by
 cases s with
 |nil=>exact nomatch (show (none:Option (Nat×(List S43)))=some r from h)
 |cons x xs=>exact qf4 (es:=q129) (hs:=[]) [] Tryz.func29 rfl (by kernel_rfl) rfl (by kernel_rfl) (by kernel_rfl) trivial trivial (by kernel_rfl) h
theorem q9v:q9w []=some (0,[]):=fS_of (r:=(0,[])) (by unfold Call callD;rfl)
def q9t:=entS Tryz.prog lv X1 29 [] q9r q9s (fun x=>q9w x) (fun _ _ h=>qf3 h)
def q11g:=q9t::q129
def qru:=(qni (vAgg (qni (vC cStr) (qni (vC (cSl qdj)) (qni (vC (cInt .i64)) (qni (vC (cInt .i64)) (qni (vC (cInt .i64)) (qnk (vC cBool)))))))) (qnk (vAgg (qni (vC (cInt .i64)) (qnk (vC (cInt .i64)))))))
def qs3:=sLS [2,3,4,12,13] (qni (vPtr 0 0) (qni (vPtr 1 0) (qni (vPtr 2 0) (qni (vC (cInt .i64)) (qnk (vC (cInt .i64))))))) (qni (qt8 (bBox (qni (vC cStr) (qni (vRow 3) (qni (vC (cInt .i64)) (qni (vC (cInt .i64)) (qni (vC (cInt .i64)) (qnk (vC cBool))))))))) (qni (qt8 (bBox (qni (vC (cInt .i64)) (qnk (vC (cInt .i64)))))) (qni (qt8 (bBox (qni (vC cStr) (qni (vRow 4) (qni (vC (cInt .i64)) (qni (vC (cInt .i64)) (qni (vC (cInt .i64)) (qnk (vC cBool))))))))) (qni (qt8 (bRow qdj)) (qnk (qt8 (bRow qdj))))))) [false,false,false,false,false] [] (by decide) (fun _=>rfl)
def qs2:=sLS [2,3,4,12,13,14] (qni (vPtr 0 0) (qni (vPtr 1 0) (qni (vPtr 2 0) (qni (vC (cInt .i64)) (qni (vC (cInt .i64)) (qnk (vC cBool))))))) (qni (qt8 (bBox (qni (vC cStr) (qni (vRow 3) (qni (vC (cInt .i64)) (qni (vC (cInt .i64)) (qni (vC (cInt .i64)) (qnk (vC cBool))))))))) (qni (qt8 (bBox (qni (vC (cInt .i64)) (qnk (vC (cInt .i64)))))) (qni (qt8 (bBox (qni (vC cStr) (qni (vRow 4) (qni (vC (cInt .i64)) (qni (vC (cInt .i64)) (qni (vC (cInt .i64)) (qnk (vC cBool))))))))) (qni (qt8 (bRow qdj)) (qnk (qt8 (bRow qdj))))))) [false,false,false,false,false] [] (by decide) (fun _=>rfl)
def qs1:=oAt 2 qs2
def qry (t12:Int) (t13:Int) (b0:ByteArray) (b0_1:Nat) (b0_2:Int) (b0_3:Int) (b0_4:Int) (b0_5:Bool) (b1:Int) (b1_1:Int) (b2:ByteArray) (b2_1:Nat) (b2_2:Int) (b2_3:Int) (b2_4:Int) (b2_5:Bool) (b3:(List S43)) (b4:(List S43)):Option ((Unit×Unit×Unit×Int×Int×Bool)×((ByteArray×Nat×Int×Int×Int×Bool)×(Int×Int)×(ByteArray×Nat×Int×Int×Int×Bool)×(List S43)×(List S43))):=lS Tryz.prog lv X1 25 35 (qix (cdF Tryz.f25) 3) qs3 qs1 (((),(),(),t12,t13),((b0,b0_1,b0_2,b0_3,b0_4,b0_5),(b1,b1_1),(b2,b2_1,b2_2,b2_3,b2_4,b2_5),b3,b4))
def qs4 (t12:Int) (t13:Int) (b0:ByteArray) (b0_1:Nat) (b0_2:Int) (b0_3:Int) (b0_4:Int) (b0_5:Bool) (b1:Int) (b1_1:Int) (b2:ByteArray) (b2_1:Nat) (b2_2:Int) (b2_3:Int) (b2_4:Int) (b2_5:Bool) (b3:(List S43)) (b4:(List S43)):Option ((Unit×Unit×Unit×Int×Int×Bool)×((ByteArray×Nat×Int×Int×Int×Bool)×(Int×Int)×(ByteArray×Nat×Int×Int×Int×Bool)×(List S43)×(List S43))) :=
 (brE (decide (t13<t12))
 (gdE ((decide (0≤t13))&&(decide (t13<((b0_1:Nat):Int))))<|
 (gdE ((decide ((Int.toNat t13)<(List.length (EC.encL qdj b3))))&&((List.length (List.getD (EC.encL qdj b3) (Int.toNat t13) []))==4))<|
 (gdE ((decide (0≤t13))&&(decide (t13<((b0_1:Nat):Int))))<|
 (gdE ((decide ((Int.toNat t13)<(List.length (List.set (EC.encL qdj b3) (Int.toNat t13) (splice (List.getD (EC.encL qdj b3) (Int.toNat t13) []) 1 [(C.int Go.IntKind.i64 0)])))))&&((List.length (List.getD (List.set (EC.encL qdj b3) (Int.toNat t13) (splice (List.getD (EC.encL qdj b3) (Int.toNat t13) []) 1 [(C.int Go.IntKind.i64 0)])) (Int.toNat t13) []))==4))<|
 (gdE (EC.isL qdj (List.set (List.set (EC.encL qdj b3) (Int.toNat t13) (splice (List.getD (EC.encL qdj b3) (Int.toNat t13) []) 1 [(C.int Go.IntKind.i64 0)])) (Int.toNat t13) (splice (List.getD (List.set (EC.encL qdj b3) (Int.toNat t13) (splice (List.getD (EC.encL qdj b3) (Int.toNat t13) []) 1 [(C.int Go.IntKind.i64 0)])) (Int.toNat t13) []) 2 [(C.int Go.IntKind.i64 0),(C.int Go.IntKind.i64 0)])))<|
 (gdE (EC.isL qdj (EC.encL qdj b4))<|
 (qry t12 (IntKind.wrap .i64 (t13+1)) b0 b0_1 b0_2 b0_3 b0_4 b0_5 b1 b1_1 b2 b2_1 b2_2 b2_3 b2_4 b2_5 (EC.decL qdj (List.set (List.set (EC.encL qdj b3) (Int.toNat t13) (splice (List.getD (EC.encL qdj b3) (Int.toNat t13) []) 1 [(C.int Go.IntKind.i64 0)])) (Int.toNat t13) (splice (List.getD (List.set (EC.encL qdj b3) (Int.toNat t13) (splice (List.getD (EC.encL qdj b3) (Int.toNat t13) []) 1 [(C.int Go.IntKind.i64 0)])) (Int.toNat t13) []) 2 [(C.int Go.IntKind.i64 0),(C.int Go.IntKind.i64 0)]))) (EC.decL qdj (EC.encL qdj b4)))))))))
 (gdE (EC.isL qdj (EC.encL qdj b3))<|
 (gdE (EC.isL qdj (EC.encL qdj b4))<|
 (some (((),((),((),(t12,(t13,false))))),((b0,(b0_1,(b0_2,(b0_3,(b0_4,b0_5))))),((b1,b1_1),((b2,(b2_1,(b2_2,(b2_3,(b2_4,b2_5))))),((EC.decL qdj (EC.encL qdj b3)),(EC.decL qdj (EC.encL qdj b4)))))))))))
theorem qs0 {t12 t13 b0 b0_1 b0_2 b0_3 b0_4 b0_5 b1 b1_1 b2 b2_1 b2_2 b2_3 b2_4 b2_5 b3 b4 r} (h:qs4 t12 t13 b0 b0_1 b0_2 b0_3 b0_4 b0_5 b1 b1_1 b2 b2_1 b2_2 b2_3 b2_4 b2_5 b3 b4=some r):qry t12 t13 b0 b0_1 b0_2 b0_3 b0_4 b0_5 b1 b1_1 b2 b2_1 b2_2 b2_3 b2_4 b2_5 b3 b4=some r :=
 qnm (es:=q11g) (hs:=[]) [] (by kernel_rfl) trivial trivial (by kernel_rfl) h
def qrz:=qp9 Tryz.prog lv X1 3 (qix (cdF Tryz.f25) 3) qs3 qs1 (fun x=>qry x.1.2.2.2.1 x.1.2.2.2.2 x.2.1.1 x.2.1.2.1 x.2.1.2.2.1 x.2.1.2.2.2.1 x.2.1.2.2.2.2.1 x.2.1.2.2.2.2.2 x.2.2.1.1 x.2.2.1.2 x.2.2.2.1.1 x.2.2.2.1.2.1 x.2.2.2.1.2.2.1 x.2.2.2.1.2.2.2.1 x.2.2.2.1.2.2.2.2.1 x.2.2.2.1.2.2.2.2.2 x.2.2.2.2.1 x.2.2.2.2.2) (fun _ _ h=>qnl h)
def qrv:Cod (V×List B) ((ByteArray×Nat×Int×Int×Int×Bool)×(List S43)):=(cPair (vAgg (qni (vC cStr) (qni (vRow 0) (qni (vC (cInt .i64)) (qni (vC (cInt .i64)) (qni (vC (cInt .i64)) (qnk (vC cBool)))))))) (qnk (bRow qdj)))
def qs5 (m_Organizer:ByteArray) (m_Guests:(List S43)) (m_Round:Int) (m_Proposed_From:Int) (m_Proposed_To:Int) (m_Cancelled:Bool) (p_From:Int) (p_To:Int):Option ((ByteArray×Nat×Int×Int×Int×Bool)×(List S43)):=fS Tryz.prog lv X1 25 qru qrv ((m_Organizer,m_Guests,m_Round,m_Proposed_From,m_Proposed_To,m_Cancelled),(p_From,p_To))
def qs6 (m_Organizer:ByteArray) (m_Guests:(List S43)) (m_Round:Int) (m_Proposed_From:Int) (m_Proposed_To:Int) (m_Cancelled:Bool) (p_From:Int) (p_To:Int):Option ((ByteArray×Nat×Int×Int×Int×Bool)×(List S43)) :=
 (gdE (EC.isL qdj (EC.encL qdj m_Guests))<|
 ((q9w (EC.decL qdj (EC.encL qdj m_Guests))).bind fun r0 =>
 (gdE (EC.isL qdj (EC.encL qdj r0.2))<|
 ((qry ((r0.1:Nat):Int) 0 m_Organizer r0.1 m_Round m_Proposed_From m_Proposed_To m_Cancelled p_From p_To ⟨#[]⟩ 0 0 0 0 false (EC.decL qdj (EC.encL qdj r0.2)) (EC.decL qdj [])).bind fun r1 =>
 (gdE (EC.isL qdj (EC.encL qdj r1.2.2.2.2.1))<|
 (some ((r1.2.1.1,(r1.2.1.2.1,((IntKind.wrap .i64 (r1.2.1.2.2.1+1)),(r1.2.2.1.1,(r1.2.2.1.2,r1.2.1.2.2.2.2.2))))),(EC.decL qdj (EC.encL qdj r1.2.2.2.2.1)))))))))
theorem qrx {m_Organizer m_Guests m_Round m_Proposed_From m_Proposed_To m_Cancelled p_From p_To r} (h:qs6 m_Organizer m_Guests m_Round m_Proposed_From m_Proposed_To m_Cancelled p_From p_To=some r):qs5 m_Organizer m_Guests m_Round m_Proposed_From m_Proposed_To m_Cancelled p_From p_To=some r :=
 qf4 (es:=q11g) (hs:=[]) [qrz] Tryz.func25 rfl (by kernel_rfl) rfl (by kernel_rfl) (by kernel_rfl) ⟨⟨_,rfl,rfl⟩,trivial⟩ trivial (by kernel_rfl) h
def qrw:=entS Tryz.prog lv X1 25 [] qru qrv (fun x=>qs5 x.1.1 x.1.2.1 x.1.2.2.1 x.1.2.2.2.1 x.1.2.2.2.2.1 x.1.2.2.2.2.2 x.2.1 x.2.2) (fun _ _ h=>qf3 h)
def q12d:=qrw::q11g
def qs7:=(qnk (vAgg (qni (vC cStr) (qni (vC (cSl qdj)) (qni (vC (cInt .i64)) (qni (vC (cInt .i64)) (qni (vC (cInt .i64)) (qnk (vC cBool)))))))))
def qs8:Cod (V×List B) (Int×Int):=(cFstU (cPair (vAgg (qni (vC (cInt .i64)) (qnk (vC (cInt .i64))))) qnj))
def qsb (m_Organizer:ByteArray) (m_Guests:(List S43)) (m_Round:Int) (m_Proposed_From:Int) (m_Proposed_To:Int) (m_Cancelled:Bool):Option (Int×Int):=fS Tryz.prog lv X1 23 qs7 qs8 (m_Organizer,m_Guests,m_Round,m_Proposed_From,m_Proposed_To,m_Cancelled)
def qsc (m_Organizer:ByteArray) (m_Guests:(List S43)) (m_Round:Int) (m_Proposed_From:Int) (m_Proposed_To:Int) (m_Cancelled:Bool):Option (Int×Int) :=
 (gdE (EC.isL qdj (EC.encL qdj m_Guests))<|
 ((qra m_Organizer (EC.decL qdj (EC.encL qdj m_Guests)) m_Round m_Proposed_From m_Proposed_To m_Cancelled).bind fun r0 =>
 ((q4q r0.1 r0.2).bind fun r1 =>
 (brE r1
 (some (r0.1,r0.2))
 (brE (m_Cancelled==false)
 (brE (m_Round==1000000)
 ((q4w 8 (-4)).bind fun r2 =>
 (some (r2.1,r2.2)))
 (Option.bind q52 fun r2 =>
 (some (r2.1,r2.2))))
 ((q4w 8 (-4)).bind fun r2 =>
 (some (r2.1,r2.2))))))))
theorem qsa {m_Organizer m_Guests m_Round m_Proposed_From m_Proposed_To m_Cancelled r} (h:qsc m_Organizer m_Guests m_Round m_Proposed_From m_Proposed_To m_Cancelled=some r):qsb m_Organizer m_Guests m_Round m_Proposed_From m_Proposed_To m_Cancelled=some r :=
 qf4 (es:=q12d) (hs:=[]) [] Tryz.func23 rfl (by kernel_rfl) rfl (by kernel_rfl) (by kernel_rfl) trivial trivial (by kernel_rfl) h
def qs9:=entS Tryz.prog lv X1 23 [] qs7 qs8 (fun x=>qsb x.1 x.2.1 x.2.2.1 x.2.2.2.1 x.2.2.2.2.1 x.2.2.2.2.2) (fun _ _ h=>qf3 h)
def q12e:=qs9::q12d
def qqs:=(qni (vAgg (qni (vC cStr) (qni (vC (cSl qdj)) (qni (vC (cInt .i64)) (qni (vC (cInt .i64)) (qni (vC (cInt .i64)) (qnk (vC cBool)))))))) (qnk (vAgg (qni (vC (cInt .i64)) (qnk (vC (cInt .i64)))))))
def qqt:Cod (V×List B) (((ByteArray×Nat×Int×Int×Int×Bool)×(Int×Int))×(List S43)):=(cPair (vTup (qni (vAgg (qni (vC cStr) (qni (vRow 0) (qni (vC (cInt .i64)) (qni (vC (cInt .i64)) (qni (vC (cInt .i64)) (qnk (vC cBool)))))))) (qnk (vAgg (qni (vC (cInt .i64)) (qnk (vC (cInt .i64)))))))) (qnk (bRow qdj)))
def qqw (m_Organizer:ByteArray) (m_Guests:(List S43)) (m_Round:Int) (m_Proposed_From:Int) (m_Proposed_To:Int) (m_Cancelled:Bool) (p_From:Int) (p_To:Int):Option (((ByteArray×Nat×Int×Int×Int×Bool)×(Int×Int))×(List S43)):=fS Tryz.prog lv X1 7 qqs qqt ((m_Organizer,m_Guests,m_Round,m_Proposed_From,m_Proposed_To,m_Cancelled),(p_From,p_To))
def qqx (m_Organizer:ByteArray) (m_Guests:(List S43)) (m_Round:Int) (m_Proposed_From:Int) (m_Proposed_To:Int) (m_Cancelled:Bool) (p_From:Int) (p_To:Int):Option (((ByteArray×Nat×Int×Int×Int×Bool)×(Int×Int))×(List S43)) :=
 (gdE (EC.isL qdj (EC.encL qdj m_Guests))<|
 ((qsb m_Organizer (EC.decL qdj (EC.encL qdj m_Guests)) m_Round m_Proposed_From m_Proposed_To m_Cancelled).bind fun r0 =>
 ((q4q r0.1 r0.2).bind fun r1 =>
 (brE r1
 (some (((⟨#[]⟩,(0,(0,(0,(0,false))))),(r0.1,r0.2)),(EC.decL qdj [])))
 ((qrs p_From p_To).bind fun r2 =>
 (brE (!r2)
 ((q4w 3 (-5)).bind fun r3 =>
 (some (((⟨#[]⟩,(0,(0,(0,(0,false))))),(r3.1,r3.2)),(EC.decL qdj []))))
 (gdE (EC.isL qdj (EC.encL qdj m_Guests))<|
 ((qs5 m_Organizer (EC.decL qdj (EC.encL qdj m_Guests)) m_Round m_Proposed_From m_Proposed_To m_Cancelled p_From p_To).bind fun r3 =>
 (Option.bind q52 fun r4 =>
 (gdE (EC.isL qdj (EC.encL qdj r3.2))<|
 (some (((r3.1.1,(r3.1.2.1,(r3.1.2.2.1,(r3.1.2.2.2.1,(r3.1.2.2.2.2.1,r3.1.2.2.2.2.2))))),(r4.1,r4.2)),(EC.decL qdj (EC.encL qdj r3.2))))))))))))))
theorem qqv {m_Organizer m_Guests m_Round m_Proposed_From m_Proposed_To m_Cancelled p_From p_To r} (h:qqx m_Organizer m_Guests m_Round m_Proposed_From m_Proposed_To m_Cancelled p_From p_To=some r):qqw m_Organizer m_Guests m_Round m_Proposed_From m_Proposed_To m_Cancelled p_From p_To=some r :=
 qf4 (es:=q12e) (hs:=[]) [] Tryz.func7 rfl (by kernel_rfl) rfl (by kernel_rfl) (by kernel_rfl) trivial trivial (by kernel_rfl) h
def qqu:=entS Tryz.prog lv X1 7 [] qqs qqt (fun x=>qqw x.1.1 x.1.2.1 x.1.2.2.1 x.1.2.2.2.1 x.1.2.2.2.2.1 x.1.2.2.2.2.2 x.2.1 x.2.2) (fun _ _ h=>qf3 h)
def q128:=qqu::q12e
def q2j:=(qni (vAgg (qni (vC cStr) (qni (vC (cInt .i64)) (qni (vC (cInt .i64)) (qnk (vC (cInt .i64))))))) (qnk (vEptr (qnk cStr) 0)))
def q2k:Cod (V×List B) Bool:=(cFstU (cPair (vC cBool) qnj))
def q2n (g_Address:ByteArray) (g_Answer:Int) (g_Offer_From:Int) (g_Offer_To:Int) (c1:ByteArray):Option Bool:=fS Tryz.prog lv X1 28 q2j q2k ((g_Address,g_Answer,g_Offer_From,g_Offer_To),c1)
def q2p (g_Address:ByteArray) (g_Answer:Int) (g_Offer_From:Int) (g_Offer_To:Int) (c1:ByteArray):Option Bool :=
 (some (g_Address.toList==c1.toList))
theorem q2m {g_Address g_Answer g_Offer_From g_Offer_To c1 r} (h:q2p g_Address g_Answer g_Offer_From g_Offer_To c1=some r):q2n g_Address g_Answer g_Offer_From g_Offer_To c1=some r :=
 qf4 (es:=q128) (hs:=[]) [] Tryz.func28 rfl (by kernel_rfl) rfl (by kernel_rfl) (by kernel_rfl) trivial trivial (by kernel_rfl) h
def q2l:=entS Tryz.prog lv X1 28 [] q2j q2k (fun x=>q2n x.1.1 x.1.2.1 x.1.2.2.1 x.1.2.2.2 x.2) (fun _ _ h=>qf3 h)
def q113:=q2l::q128
def ql7:=(qni (vC (cSl qdj)) (qnk (vFn 28 (qnk (vEptr (qnk cStr) 0)))))
def qlh:=sLS [0,1,7,8] (qni (vC (cSl qdj)) (qni (vFn 28 (qnk (vEptr (qnk cStr) 0))) (qni (vC (cInt .i64)) (qnk (vC (cInt .i64)))))) qnj [] [] (by decide) (fun _=>rfl)
def qlg:=sLS [0,1,7,8,9] (qni (vC (cSl qdj)) (qni (vFn 28 (qnk (vEptr (qnk cStr) 0))) (qni (vC (cInt .i64)) (qni (vC (cInt .i64)) (qnk (vC cBool)))))) qnj [] [] (by decide) (fun _=>rfl)
def qlf:=sLS [4] (qnk (vC (cInt .i64))) qnj [] [] (by decide) (fun _=>rfl)
def qle:=oOr 1 qlf (oAt 2 qlg) (fun x=>(by decide:(2:Nat)≠1))
def qlb (s:(List S43)) (f:ByteArray) (t7:Int) (t8:Int):Option ((Int×Unit)⊕(((List S43)×ByteArray×Int×Int×Bool)×Unit)):=lS Tryz.prog lv X1 27 19 (qix (cdF Tryz.f27) 2) qlh qle ((s,f,t7,t8),())
def qli (s:(List S43)) (f:ByteArray) (t7:Int) (t8:Int):Option ((Int×Unit)⊕(((List S43)×ByteArray×Int×Int×Bool)×Unit)) :=
 (brE (decide (t8<t7))
 (gdE (decide (0≤t8))<|
 (gdE ((decide ((Int.toNat t8)<(List.length (EC.encL qdj s))))&&(isE [K1.str,(K1.int Go.IntKind.i64),(K1.int Go.IntKind.i64),(K1.int Go.IntKind.i64)] 0 (List.getD (EC.encL qdj s) (Int.toNat t8) [])))<|
 ((q2n (q10v (List.getD (List.getD (EC.encL qdj s) (Int.toNat t8) []) 0 C.ne)) (qm6 (List.getD (List.getD (EC.encL qdj s) (Int.toNat t8) []) 1 C.ne)) (qm6 (List.getD (List.getD (EC.encL qdj s) (Int.toNat t8) []) 2 C.ne)) (qm6 (List.getD (List.getD (EC.encL qdj s) (Int.toNat t8) []) 3 C.ne)) f).bind fun r0 =>
 (brE r0
 (some (.inl (t8,())))
 (gdE (EC.isL qdj (EC.encL qdj s))<|
 (qlb (EC.decL qdj (EC.encL qdj s)) f t7 (IntKind.wrap .i64 (t8+1))))))))
 (gdE (EC.isL qdj (EC.encL qdj s))<|
 (some (.inr (((EC.decL qdj (EC.encL qdj s)),(f,(t7,(t8,false)))),())))))
theorem qld {s f t7 t8 r} (h:qli s f t7 t8=some r):qlb s f t7 t8=some r :=
 qnm (es:=q113) (hs:=[]) [] (by kernel_rfl) trivial trivial (by kernel_rfl) h
def qlc:=qp9 Tryz.prog lv X1 2 (qix (cdF Tryz.f27) 2) qlh qle (fun x=>qlb x.1.1 x.1.2.1 x.1.2.2.1 x.1.2.2.2) (fun _ _ h=>qnl h)
def ql8:Cod (V×List B) Int:=(cFstU (cPair (vC (cInt .i64)) qnj))
def qlk (s:(List S43)) (f:ByteArray):Option Int:=fS Tryz.prog lv X1 27 ql7 ql8 (s,f)
def qlm (s:(List S43)) (f:ByteArray):Option Int :=
 (gdE (EC.isL qdj (EC.encL qdj s))<|
 ((qlb (EC.decL qdj (EC.encL qdj s)) f (List.length (EC.encL qdj s):Int) 0).bind fun r0 =>
 (Sum.elim (fun r1=>(some r1.1))
 (fun r1=>(some (-1:Int))) r0)))
theorem qla {s f r} (h:qlm s f=some r):qlk s f=some r :=
 qf4 (es:=q113) (hs:=[]) [qlc] Tryz.func27 rfl (by kernel_rfl) rfl (by kernel_rfl) (by kernel_rfl) ⟨⟨_,rfl,rfl⟩,trivial⟩ trivial (by kernel_rfl) h
def ql9:=entS Tryz.prog lv X1 27 [28] ql7 ql8 (fun x=>qlk x.1 x.2) (fun _ _ h=>qf3 h)
def q123:=ql9::q113
def qq8:=(qni (vAgg (qni (vC cStr) (qni (vC (cSl qdj)) (qni (vC (cInt .i64)) (qni (vC (cInt .i64)) (qni (vC (cInt .i64)) (qnk (vC cBool)))))))) (qni (vC cStr) (qni (vC (cInt .i64)) (qnk (vAgg (qni (vC (cInt .i64)) (qnk (vC (cInt .i64)))))))))
def qq9:Cod (V×List B) (((ByteArray×Nat×Int×Int×Int×Bool)×(Int×Int))×(List S43)):=(cPair (vTup (qni (vAgg (qni (vC cStr) (qni (vRow 0) (qni (vC (cInt .i64)) (qni (vC (cInt .i64)) (qni (vC (cInt .i64)) (qnk (vC cBool)))))))) (qnk (vAgg (qni (vC (cInt .i64)) (qnk (vC (cInt .i64)))))))) (qnk (bRow qdj)))
def qqc (m_Organizer:ByteArray) (m_Guests:(List S43)) (m_Round:Int) (m_Proposed_From:Int) (m_Proposed_To:Int) (m_Cancelled:Bool) (who:ByteArray) (answer:Int) (offer_From:Int) (offer_To:Int):Option (((ByteArray×Nat×Int×Int×Int×Bool)×(Int×Int))×(List S43)):=fS Tryz.prog lv X1 8 qq8 qq9 ((m_Organizer,m_Guests,m_Round,m_Proposed_From,m_Proposed_To,m_Cancelled),who,answer,(offer_From,offer_To))
def qqd (m_Organizer:ByteArray) (m_Guests:(List S43)) (m_Round:Int) (m_Proposed_From:Int) (m_Proposed_To:Int) (m_Cancelled:Bool) (who:ByteArray) (answer:Int) (offer_From:Int) (offer_To:Int):Option (((ByteArray×Nat×Int×Int×Int×Bool)×(Int×Int))×(List S43)) :=
 (gdE (EC.isL qdj (EC.encL qdj m_Guests))<|
 ((qra m_Organizer (EC.decL qdj (EC.encL qdj m_Guests)) m_Round m_Proposed_From m_Proposed_To m_Cancelled).bind fun r0 =>
 ((q4q r0.1 r0.2).bind fun r1 =>
 (brE r1
 (some (((⟨#[]⟩,(0,(0,(0,(0,false))))),(r0.1,r0.2)),(EC.decL qdj [])))
 (gdE (EC.isL qdj (EC.encL qdj m_Guests))<|
 ((qlk (EC.decL qdj (EC.encL qdj m_Guests)) who).bind fun r2 =>
 (brE (m_Cancelled==false)
 (brE (m_Round==0)
 ((q4w 8 (-4)).bind fun r3 =>
 (some (((⟨#[]⟩,(0,(0,(0,(0,false))))),(r3.1,r3.2)),(EC.decL qdj []))))
 (brE (decide (r2<0))
 ((q4w 6 (-5)).bind fun r3 =>
 (some (((⟨#[]⟩,(0,(0,(0,(0,false))))),(r3.1,r3.2)),(EC.decL qdj []))))
 (brE ((decide (answer<1))==false)
 (brE (decide (answer>3))
 ((q4w 3 (-6)).bind fun r3 =>
 (some (((⟨#[]⟩,(0,(0,(0,(0,false))))),(r3.1,r3.2)),(EC.decL qdj []))))
 (brE ((answer==3)==true)
 ((qrs offer_From offer_To).bind fun r3 =>
 (brE (!r3)
 ((q4w 3 (-7)).bind fun r4 =>
 (some (((⟨#[]⟩,(0,(0,(0,(0,false))))),(r4.1,r4.2)),(EC.decL qdj []))))
 (gdE (EC.isL qdj (EC.encL qdj m_Guests))<|
 ((q9w (EC.decL qdj (EC.encL qdj m_Guests))).bind fun r4 =>
 (gdE ((decide (0≤r2))&&(decide (r2<((r4.1:Nat):Int))))<|
 (gdE ((decide ((Int.toNat r2)<(List.length (EC.encL qdj r4.2))))&&((List.length (List.getD (EC.encL qdj r4.2) (Int.toNat r2) []))==4))<|
 (gdE ((decide (0≤r2))&&(decide (r2<((r4.1:Nat):Int))))<|
 (gdE ((decide ((Int.toNat r2)<(List.length (List.set (EC.encL qdj r4.2) (Int.toNat r2) (splice (List.getD (EC.encL qdj r4.2) (Int.toNat r2) []) 1 [(C.int Go.IntKind.i64 answer)])))))&&((List.length (List.getD (List.set (EC.encL qdj r4.2) (Int.toNat r2) (splice (List.getD (EC.encL qdj r4.2) (Int.toNat r2) []) 1 [(C.int Go.IntKind.i64 answer)])) (Int.toNat r2) []))==4))<|
 (brE (answer==3)
 (gdE ((decide (0≤r2))&&(decide (r2<((r4.1:Nat):Int))))<|
 (gdE ((decide ((Int.toNat r2)<(List.length (List.set (List.set (EC.encL qdj r4.2) (Int.toNat r2) (splice (List.getD (EC.encL qdj r4.2) (Int.toNat r2) []) 1 [(C.int Go.IntKind.i64 answer)])) (Int.toNat r2) (splice (List.getD (List.set (EC.encL qdj r4.2) (Int.toNat r2) (splice (List.getD (EC.encL qdj r4.2) (Int.toNat r2) []) 1 [(C.int Go.IntKind.i64 answer)])) (Int.toNat r2) []) 2 [(C.int Go.IntKind.i64 0),(C.int Go.IntKind.i64 0)])))))&&((List.length (List.getD (List.set (List.set (EC.encL qdj r4.2) (Int.toNat r2) (splice (List.getD (EC.encL qdj r4.2) (Int.toNat r2) []) 1 [(C.int Go.IntKind.i64 answer)])) (Int.toNat r2) (splice (List.getD (List.set (EC.encL qdj r4.2) (Int.toNat r2) (splice (List.getD (EC.encL qdj r4.2) (Int.toNat r2) []) 1 [(C.int Go.IntKind.i64 answer)])) (Int.toNat r2) []) 2 [(C.int Go.IntKind.i64 0),(C.int Go.IntKind.i64 0)])) (Int.toNat r2) []))==4))<|
 (Option.bind q52 fun r5 =>
 (gdE (EC.isL qdj (List.set (List.set (List.set (EC.encL qdj r4.2) (Int.toNat r2) (splice (List.getD (EC.encL qdj r4.2) (Int.toNat r2) []) 1 [(C.int Go.IntKind.i64 answer)])) (Int.toNat r2) (splice (List.getD (List.set (EC.encL qdj r4.2) (Int.toNat r2) (splice (List.getD (EC.encL qdj r4.2) (Int.toNat r2) []) 1 [(C.int Go.IntKind.i64 answer)])) (Int.toNat r2) []) 2 [(C.int Go.IntKind.i64 0),(C.int Go.IntKind.i64 0)])) (Int.toNat r2) (splice (List.getD (List.set (List.set (EC.encL qdj r4.2) (Int.toNat r2) (splice (List.getD (EC.encL qdj r4.2) (Int.toNat r2) []) 1 [(C.int Go.IntKind.i64 answer)])) (Int.toNat r2) (splice (List.getD (List.set (EC.encL qdj r4.2) (Int.toNat r2) (splice (List.getD (EC.encL qdj r4.2) (Int.toNat r2) []) 1 [(C.int Go.IntKind.i64 answer)])) (Int.toNat r2) []) 2 [(C.int Go.IntKind.i64 0),(C.int Go.IntKind.i64 0)])) (Int.toNat r2) []) 2 [(C.int Go.IntKind.i64 offer_From),(C.int Go.IntKind.i64 offer_To)])))<|
 (some (((m_Organizer,(r4.1,(m_Round,(m_Proposed_From,(m_Proposed_To,m_Cancelled))))),(r5.1,r5.2)),(EC.decL qdj (List.set (List.set (List.set (EC.encL qdj r4.2) (Int.toNat r2) (splice (List.getD (EC.encL qdj r4.2) (Int.toNat r2) []) 1 [(C.int Go.IntKind.i64 answer)])) (Int.toNat r2) (splice (List.getD (List.set (EC.encL qdj r4.2) (Int.toNat r2) (splice (List.getD (EC.encL qdj r4.2) (Int.toNat r2) []) 1 [(C.int Go.IntKind.i64 answer)])) (Int.toNat r2) []) 2 [(C.int Go.IntKind.i64 0),(C.int Go.IntKind.i64 0)])) (Int.toNat r2) (splice (List.getD (List.set (List.set (EC.encL qdj r4.2) (Int.toNat r2) (splice (List.getD (EC.encL qdj r4.2) (Int.toNat r2) []) 1 [(C.int Go.IntKind.i64 answer)])) (Int.toNat r2) (splice (List.getD (List.set (EC.encL qdj r4.2) (Int.toNat r2) (splice (List.getD (EC.encL qdj r4.2) (Int.toNat r2) []) 1 [(C.int Go.IntKind.i64 answer)])) (Int.toNat r2) []) 2 [(C.int Go.IntKind.i64 0),(C.int Go.IntKind.i64 0)])) (Int.toNat r2) []) 2 [(C.int Go.IntKind.i64 offer_From),(C.int Go.IntKind.i64 offer_To)])))))))))
 (Option.bind q52 fun r5 =>
 (gdE (EC.isL qdj (List.set (List.set (EC.encL qdj r4.2) (Int.toNat r2) (splice (List.getD (EC.encL qdj r4.2) (Int.toNat r2) []) 1 [(C.int Go.IntKind.i64 answer)])) (Int.toNat r2) (splice (List.getD (List.set (EC.encL qdj r4.2) (Int.toNat r2) (splice (List.getD (EC.encL qdj r4.2) (Int.toNat r2) []) 1 [(C.int Go.IntKind.i64 answer)])) (Int.toNat r2) []) 2 [(C.int Go.IntKind.i64 0),(C.int Go.IntKind.i64 0)])))<|
 (some (((m_Organizer,(r4.1,(m_Round,(m_Proposed_From,(m_Proposed_To,m_Cancelled))))),(r5.1,r5.2)),(EC.decL qdj (List.set (List.set (EC.encL qdj r4.2) (Int.toNat r2) (splice (List.getD (EC.encL qdj r4.2) (Int.toNat r2) []) 1 [(C.int Go.IntKind.i64 answer)])) (Int.toNat r2) (splice (List.getD (List.set (EC.encL qdj r4.2) (Int.toNat r2) (splice (List.getD (EC.encL qdj r4.2) (Int.toNat r2) []) 1 [(C.int Go.IntKind.i64 answer)])) (Int.toNat r2) []) 2 [(C.int Go.IntKind.i64 0),(C.int Go.IntKind.i64 0)]))))))))))))))))
 (gdE (EC.isL qdj (EC.encL qdj m_Guests))<|
 ((q9w (EC.decL qdj (EC.encL qdj m_Guests))).bind fun r3 =>
 (gdE ((decide (0≤r2))&&(decide (r2<((r3.1:Nat):Int))))<|
 (gdE ((decide ((Int.toNat r2)<(List.length (EC.encL qdj r3.2))))&&((List.length (List.getD (EC.encL qdj r3.2) (Int.toNat r2) []))==4))<|
 (gdE ((decide (0≤r2))&&(decide (r2<((r3.1:Nat):Int))))<|
 (gdE ((decide ((Int.toNat r2)<(List.length (List.set (EC.encL qdj r3.2) (Int.toNat r2) (splice (List.getD (EC.encL qdj r3.2) (Int.toNat r2) []) 1 [(C.int Go.IntKind.i64 answer)])))))&&((List.length (List.getD (List.set (EC.encL qdj r3.2) (Int.toNat r2) (splice (List.getD (EC.encL qdj r3.2) (Int.toNat r2) []) 1 [(C.int Go.IntKind.i64 answer)])) (Int.toNat r2) []))==4))<|
 (brE (answer==3)
 (gdE ((decide (0≤r2))&&(decide (r2<((r3.1:Nat):Int))))<|
 (gdE ((decide ((Int.toNat r2)<(List.length (List.set (List.set (EC.encL qdj r3.2) (Int.toNat r2) (splice (List.getD (EC.encL qdj r3.2) (Int.toNat r2) []) 1 [(C.int Go.IntKind.i64 answer)])) (Int.toNat r2) (splice (List.getD (List.set (EC.encL qdj r3.2) (Int.toNat r2) (splice (List.getD (EC.encL qdj r3.2) (Int.toNat r2) []) 1 [(C.int Go.IntKind.i64 answer)])) (Int.toNat r2) []) 2 [(C.int Go.IntKind.i64 0),(C.int Go.IntKind.i64 0)])))))&&((List.length (List.getD (List.set (List.set (EC.encL qdj r3.2) (Int.toNat r2) (splice (List.getD (EC.encL qdj r3.2) (Int.toNat r2) []) 1 [(C.int Go.IntKind.i64 answer)])) (Int.toNat r2) (splice (List.getD (List.set (EC.encL qdj r3.2) (Int.toNat r2) (splice (List.getD (EC.encL qdj r3.2) (Int.toNat r2) []) 1 [(C.int Go.IntKind.i64 answer)])) (Int.toNat r2) []) 2 [(C.int Go.IntKind.i64 0),(C.int Go.IntKind.i64 0)])) (Int.toNat r2) []))==4))<|
 (Option.bind q52 fun r4 =>
 (gdE (EC.isL qdj (List.set (List.set (List.set (EC.encL qdj r3.2) (Int.toNat r2) (splice (List.getD (EC.encL qdj r3.2) (Int.toNat r2) []) 1 [(C.int Go.IntKind.i64 answer)])) (Int.toNat r2) (splice (List.getD (List.set (EC.encL qdj r3.2) (Int.toNat r2) (splice (List.getD (EC.encL qdj r3.2) (Int.toNat r2) []) 1 [(C.int Go.IntKind.i64 answer)])) (Int.toNat r2) []) 2 [(C.int Go.IntKind.i64 0),(C.int Go.IntKind.i64 0)])) (Int.toNat r2) (splice (List.getD (List.set (List.set (EC.encL qdj r3.2) (Int.toNat r2) (splice (List.getD (EC.encL qdj r3.2) (Int.toNat r2) []) 1 [(C.int Go.IntKind.i64 answer)])) (Int.toNat r2) (splice (List.getD (List.set (EC.encL qdj r3.2) (Int.toNat r2) (splice (List.getD (EC.encL qdj r3.2) (Int.toNat r2) []) 1 [(C.int Go.IntKind.i64 answer)])) (Int.toNat r2) []) 2 [(C.int Go.IntKind.i64 0),(C.int Go.IntKind.i64 0)])) (Int.toNat r2) []) 2 [(C.int Go.IntKind.i64 offer_From),(C.int Go.IntKind.i64 offer_To)])))<|
 (some (((m_Organizer,(r3.1,(m_Round,(m_Proposed_From,(m_Proposed_To,m_Cancelled))))),(r4.1,r4.2)),(EC.decL qdj (List.set (List.set (List.set (EC.encL qdj r3.2) (Int.toNat r2) (splice (List.getD (EC.encL qdj r3.2) (Int.toNat r2) []) 1 [(C.int Go.IntKind.i64 answer)])) (Int.toNat r2) (splice (List.getD (List.set (EC.encL qdj r3.2) (Int.toNat r2) (splice (List.getD (EC.encL qdj r3.2) (Int.toNat r2) []) 1 [(C.int Go.IntKind.i64 answer)])) (Int.toNat r2) []) 2 [(C.int Go.IntKind.i64 0),(C.int Go.IntKind.i64 0)])) (Int.toNat r2) (splice (List.getD (List.set (List.set (EC.encL qdj r3.2) (Int.toNat r2) (splice (List.getD (EC.encL qdj r3.2) (Int.toNat r2) []) 1 [(C.int Go.IntKind.i64 answer)])) (Int.toNat r2) (splice (List.getD (List.set (EC.encL qdj r3.2) (Int.toNat r2) (splice (List.getD (EC.encL qdj r3.2) (Int.toNat r2) []) 1 [(C.int Go.IntKind.i64 answer)])) (Int.toNat r2) []) 2 [(C.int Go.IntKind.i64 0),(C.int Go.IntKind.i64 0)])) (Int.toNat r2) []) 2 [(C.int Go.IntKind.i64 offer_From),(C.int Go.IntKind.i64 offer_To)])))))))))
 (Option.bind q52 fun r4 =>
 (gdE (EC.isL qdj (List.set (List.set (EC.encL qdj r3.2) (Int.toNat r2) (splice (List.getD (EC.encL qdj r3.2) (Int.toNat r2) []) 1 [(C.int Go.IntKind.i64 answer)])) (Int.toNat r2) (splice (List.getD (List.set (EC.encL qdj r3.2) (Int.toNat r2) (splice (List.getD (EC.encL qdj r3.2) (Int.toNat r2) []) 1 [(C.int Go.IntKind.i64 answer)])) (Int.toNat r2) []) 2 [(C.int Go.IntKind.i64 0),(C.int Go.IntKind.i64 0)])))<|
 (some (((m_Organizer,(r3.1,(m_Round,(m_Proposed_From,(m_Proposed_To,m_Cancelled))))),(r4.1,r4.2)),(EC.decL qdj (List.set (List.set (EC.encL qdj r3.2) (Int.toNat r2) (splice (List.getD (EC.encL qdj r3.2) (Int.toNat r2) []) 1 [(C.int Go.IntKind.i64 answer)])) (Int.toNat r2) (splice (List.getD (List.set (EC.encL qdj r3.2) (Int.toNat r2) (splice (List.getD (EC.encL qdj r3.2) (Int.toNat r2) []) 1 [(C.int Go.IntKind.i64 answer)])) (Int.toNat r2) []) 2 [(C.int Go.IntKind.i64 0),(C.int Go.IntKind.i64 0)]))))))))))))))))
 ((q4w 3 (-6)).bind fun r3 =>
 (some (((⟨#[]⟩,(0,(0,(0,(0,false))))),(r3.1,r3.2)),(EC.decL qdj [])))))))
 ((q4w 8 (-4)).bind fun r3 =>
 (some (((⟨#[]⟩,(0,(0,(0,(0,false))))),(r3.1,r3.2)),(EC.decL qdj [])))))))))))
theorem qqb {m_Organizer m_Guests m_Round m_Proposed_From m_Proposed_To m_Cancelled who answer offer_From offer_To r} (h:qqd m_Organizer m_Guests m_Round m_Proposed_From m_Proposed_To m_Cancelled who answer offer_From offer_To=some r):qqc m_Organizer m_Guests m_Round m_Proposed_From m_Proposed_To m_Cancelled who answer offer_From offer_To=some r :=
 qf4 (es:=q123) (hs:=[]) [] Tryz.func8 rfl (by kernel_rfl) rfl (by kernel_rfl) (by kernel_rfl) trivial trivial (by kernel_rfl) h
def qqa:=entS Tryz.prog lv X1 8 [] qq8 qq9 (fun x=>qqc x.1.1 x.1.2.1 x.1.2.2.1 x.1.2.2.2.1 x.1.2.2.2.2.1 x.1.2.2.2.2.2 x.2.1 x.2.2.1 x.2.2.2.1 x.2.2.2.2) (fun _ _ h=>qf3 h)
def q126:=qqa::q123
def q1h:=(qnk (vAgg (qni (vC cStr) (qni (vC (cInt .i64)) (qni (vC (cInt .i64)) (qnk (vC (cInt .i64))))))))
def q1i:Cod (V×List B) Bool:=(cFstU (cPair (vC cBool) qnj))
def q1l (g_Address:ByteArray) (g_Answer:Int) (g_Offer_From:Int) (g_Offer_To:Int):Option Bool:=fS Tryz.prog lv X1 30 q1h q1i (g_Address,g_Answer,g_Offer_From,g_Offer_To)
def q1n (g_Address:ByteArray) (g_Answer:Int) (g_Offer_From:Int) (g_Offer_To:Int):Option Bool :=
 (some (g_Answer != 1))
theorem q1k {g_Address g_Answer g_Offer_From g_Offer_To r} (h:q1n g_Address g_Answer g_Offer_From g_Offer_To=some r):q1l g_Address g_Answer g_Offer_From g_Offer_To=some r :=
 qf4 (es:=q126) (hs:=[]) [] Tryz.func30 rfl (by kernel_rfl) rfl (by kernel_rfl) (by kernel_rfl) trivial trivial (by kernel_rfl) h
def q1j:=entS Tryz.prog lv X1 30 [] q1h q1i (fun x=>q1l x.1 x.2.1 x.2.2.1 x.2.2.2) (fun _ _ h=>qf3 h)
def q111:=q1j::q126
def qks:Cod (List V) ((List S43)×Unit):=(qni (vC (cSl qdj)) (qnk (vFn 30 qnj)))
def ql2:=sLS [0,1,7,8] (qni (vC (cSl qdj)) (qni (vFn 30 qnj) (qni (vC (cInt .i64)) (qnk (vC (cInt .i64)))))) qnj [] [] (by decide) (fun _=>rfl)
def ql1:=sLS [0,1,7,8,9] (qni (vC (cSl qdj)) (qni (vFn 30 qnj) (qni (vC (cInt .i64)) (qni (vC (cInt .i64)) (qnk (vC cBool)))))) qnj [] [] (by decide) (fun _=>rfl)
def ql0:=sLS [4] (qnk (vC (cInt .i64))) qnj [] [] (by decide) (fun _=>rfl)
def qkz:=oOr 1 ql0 (oAt 2 ql1) (fun x=>(by decide:(2:Nat)≠1))
def qkw (s:(List S43)) (t7:Int) (t8:Int):Option ((Int×Unit)⊕(((List S43)×Unit×Int×Int×Bool)×Unit)):=lS Tryz.prog lv X1 27 19 (qix (cdF Tryz.f27) 2) ql2 qkz ((s,(),t7,t8),())
def ql3 (s:(List S43)) (t7:Int) (t8:Int):Option ((Int×Unit)⊕(((List S43)×Unit×Int×Int×Bool)×Unit)) :=
 (brE (decide (t8<t7))
 (gdE (decide (0≤t8))<|
 (gdE ((decide ((Int.toNat t8)<(List.length (EC.encL qdj s))))&&(isE [K1.str,(K1.int Go.IntKind.i64),(K1.int Go.IntKind.i64),(K1.int Go.IntKind.i64)] 0 (List.getD (EC.encL qdj s) (Int.toNat t8) [])))<|
 ((q1l (q10v (List.getD (List.getD (EC.encL qdj s) (Int.toNat t8) []) 0 C.ne)) (qm6 (List.getD (List.getD (EC.encL qdj s) (Int.toNat t8) []) 1 C.ne)) (qm6 (List.getD (List.getD (EC.encL qdj s) (Int.toNat t8) []) 2 C.ne)) (qm6 (List.getD (List.getD (EC.encL qdj s) (Int.toNat t8) []) 3 C.ne))).bind fun r0 =>
 (brE r0
 (some (.inl (t8,())))
 (gdE (EC.isL qdj (EC.encL qdj s))<|
 (qkw (EC.decL qdj (EC.encL qdj s)) t7 (IntKind.wrap .i64 (t8+1))))))))
 (gdE (EC.isL qdj (EC.encL qdj s))<|
 (some (.inr (((EC.decL qdj (EC.encL qdj s)),((),(t7,(t8,false)))),())))))
theorem qky {s t7 t8 r} (h:ql3 s t7 t8=some r):qkw s t7 t8=some r :=
 qnm (es:=q111) (hs:=[]) [] (by kernel_rfl) trivial trivial (by kernel_rfl) h
def qkx:=qp9 Tryz.prog lv X1 2 (qix (cdF Tryz.f27) 2) ql2 qkz (fun x=>qkw x.1.1 x.1.2.2.1 x.1.2.2.2) (fun _ _ h=>qnl h)
def qkt:Cod (V×List B) Int:=(cFstU (cPair (vC (cInt .i64)) qnj))
def ql5 (s:(List S43)):Option Int:=fS Tryz.prog lv X1 27 qks qkt (s,())
def ql6 (s:(List S43)):Option Int :=
 (gdE (EC.isL qdj (EC.encL qdj s))<|
 ((qkw (EC.decL qdj (EC.encL qdj s)) (List.length (EC.encL qdj s):Int) 0).bind fun r0 =>
 (Sum.elim (fun r1=>(some r1.1))
 (fun r1=>(some (-1:Int))) r0)))
theorem qkv {s r} (h:ql6 s=some r):ql5 s=some r :=
 qf4 (es:=q111) (hs:=[]) [qkx] Tryz.func27 rfl (by kernel_rfl) rfl (by kernel_rfl) (by kernel_rfl) ⟨⟨_,rfl,rfl⟩,trivial⟩ trivial (by kernel_rfl) h
def qku:=entS Tryz.prog lv X1 27 [30] qks qkt (fun x=>ql5 x.1) (fun _ _ h=>qf3 h)
def q122:=qku::q111
def qju:Cod (List V) ((List S43)×Unit):=(qni (vC (cSl qdj)) (qnk (vFn 30 qnj)))
def qjv:Cod (V×List B) Bool:=(cFstU (cPair (vC cBool) qnj))
def qjy (s:(List S43)):Option Bool:=fS Tryz.prog lv X1 31 qju qjv (s,())
def qk0 (s:(List S43)):Option Bool :=
 (gdE (EC.isL qdj (EC.encL qdj s))<|
 ((ql5 (EC.decL qdj (EC.encL qdj s))).bind fun r0 =>
 (some (decide (r0≥0)))))
theorem qjx {s r} (h:qk0 s=some r):qjy s=some r :=
 qf4 (es:=q122) (hs:=[]) [] Tryz.func31 rfl (by kernel_rfl) rfl (by kernel_rfl) (by kernel_rfl) trivial trivial (by kernel_rfl) h
def qjw:=entS Tryz.prog lv X1 31 [30] qju qjv (fun x=>qjy x.1) (fun _ _ h=>qf3 h)
def q120:=qjw::q122
def qq2:=(qnk (vAgg (qni (vC cStr) (qni (vC (cSl qdj)) (qni (vC (cInt .i64)) (qni (vC (cInt .i64)) (qni (vC (cInt .i64)) (qnk (vC cBool)))))))))
def qq3:Cod (V×List B) (Bool×(Int×Int)):=(cFstU (cPair (vTup (qni (vC cBool) (qnk (vAgg (qni (vC (cInt .i64)) (qnk (vC (cInt .i64)))))))) qnj))
def qq6 (m_Organizer:ByteArray) (m_Guests:(List S43)) (m_Round:Int) (m_Proposed_From:Int) (m_Proposed_To:Int) (m_Cancelled:Bool):Option (Bool×(Int×Int)):=fS Tryz.prog lv X1 9 qq2 qq3 (m_Organizer,m_Guests,m_Round,m_Proposed_From,m_Proposed_To,m_Cancelled)
def qq7 (m_Organizer:ByteArray) (m_Guests:(List S43)) (m_Round:Int) (m_Proposed_From:Int) (m_Proposed_To:Int) (m_Cancelled:Bool):Option (Bool×(Int×Int)) :=
 (gdE (EC.isL qdj (EC.encL qdj m_Guests))<|
 ((qra m_Organizer (EC.decL qdj (EC.encL qdj m_Guests)) m_Round m_Proposed_From m_Proposed_To m_Cancelled).bind fun r0 =>
 ((q4q r0.1 r0.2).bind fun r1 =>
 (brE r1
 (some (false,(r0.1,r0.2)))
 (brE ((!m_Cancelled)==true)
 (brE ((decide (m_Round>0))==true)
 (gdE (EC.isL qdj (EC.encL qdj m_Guests))<|
 ((qjy (EC.decL qdj (EC.encL qdj m_Guests))).bind fun r2 =>
 (Option.bind q52 fun r3 =>
 (some ((!r2),(r3.1,r3.2))))))
 (Option.bind q52 fun r2 =>
 (some (false,(r2.1,r2.2)))))
 (Option.bind q52 fun r2 =>
 (some (false,(r2.1,r2.2)))))))))
theorem qq5 {m_Organizer m_Guests m_Round m_Proposed_From m_Proposed_To m_Cancelled r} (h:qq7 m_Organizer m_Guests m_Round m_Proposed_From m_Proposed_To m_Cancelled=some r):qq6 m_Organizer m_Guests m_Round m_Proposed_From m_Proposed_To m_Cancelled=some r :=
 qf4 (es:=q120) (hs:=[]) [] Tryz.func9 rfl (by kernel_rfl) rfl (by kernel_rfl) (by kernel_rfl) trivial trivial (by kernel_rfl) h
def qq4:=entS Tryz.prog lv X1 9 [] qq2 qq3 (fun x=>qq6 x.1 x.2.1 x.2.2.1 x.2.2.2.1 x.2.2.2.2.1 x.2.2.2.2.2) (fun _ _ h=>qf3 h)
def q125:=qq4::q120
def qdh:EC (List S86) where
 enc x:=[.sl (qdl.encL x)]
 dec c:=qdl.decL (slOf (c.getD 0 .ne))
 is c:=isE [.sl] 0 c&&qdl.isL (slOf (c.getD 0 .ne))
 enc_dec h:=by
  simp only [Bool.and_eq_true] at h
  have h0:=qc1 h.1
  simp only [decE,decC] at h0
  simp only [EC.encL_decL _ h.2]
  exact h0
 dec_enc x:=by simp [q10v,qm6,q76,slOf]
 is_enc x:=by simp [isE,isK,slOf]
theorem enc_36 (x:(List S86)):qdh.enc x=[.sl (qdl.encL x)]:=rfl
theorem qmj (xs:List (List S86)) (n:Nat):isE [.sl] 0 ((qdh.encL xs).getD n [])=decide (n<xs.length):=by
 by_cases h:n<xs.length
 ·simp only [EC.getD_lt _ _ h];simp [enc_36,isE,isK,h]
 ·simp only [EC.getD_ge _ _ (Nat.not_lt.1 h)];simp [isE,isK,h]
theorem q3f (xs:List (List S86)) (n:Nat):slOf (((qdh.encL xs).getD n []).getD 0 .ne)=qdl.encL (xs.getD n (qdh.dec [])):=by
 by_cases h:n<xs.length
 ·simp only [EC.getD_lt _ _ h];simp [enc_36,h,q10v,qm6,q76,slOf,List.getD_eq_getElem?_getD]
 ·simp only [EC.getD_ge _ _ (Nat.not_lt.1 h)];simp [Nat.not_lt.1 h,qdh,q10v,qm6,q76,slOf,List.getD_eq_getElem?_getD,EC.decL,EC.encL]
theorem lit_36 (a0:(List S86)):([.sl (qdl.encL a0)]:List C)=qdh.enc a0:=rfl
theorem q2z (xs:List (List S86)) (a0:(List S86)):qdh.encL xs++[[.sl (qdl.encL a0)]]=qdh.encL (xs++[a0]):=by rw [lit_36];simp [EC.encL]
theorem q2c (xs:List (List S86)):(qdh.encL xs).all (fun (el:List C)=>el.length==1)=true:=by induction xs with|nil=>rfl|cons x xs ih=>first|(simp [EC.encL,enc_36];done)|simpa [EC.encL,enc_36] using ih
theorem qxk (xs:List (List S86)) (n:Nat) (a0:(List S86)):(qdh.encL xs).set n (splice ((qdh.encL xs).getD n []) 0 [.sl (qdl.encL a0)])=qdh.encL (xs.set n (a0)):=by
 by_cases h:n<xs.length
 ·rw [EC.getD_lt _ _ h];simp [EC.encL,List.map_set,enc_36,splice,List.getD_eq_getElem?_getD,h]
 ·simp [EC.encL,List.set_eq_of_length_le,Nat.not_lt.1 h]
def qnr:=(qni (vAgg (qni (vC cStr) (qni (vC (cSl qdj)) (qni (vC (cInt .i64)) (qni (vC (cInt .i64)) (qni (vC (cInt .i64)) (qnk (vC cBool)))))))) (qni (vC (cSl qdh)) (qni (vC (cSl qdk)) (qni (vC (cInt .i64)) (qni (vC (cInt .i64)) (qnk (vC (cInt .i64))))))))
def qoi:=sLS [1,2,3,4,5,6,13,14] (qni (vC (cSl qdh)) (qni (vC (cSl qdk)) (qni (vC (cInt .i64)) (qni (vC (cInt .i64)) (qni (vC (cInt .i64)) (qni (vPtr 0 0) (qni (vRow 1) (qnk (vC (cInt .i64)))))))))) (qni (qt8 (bBox (qni (vC cStr) (qni (vC (cSl qdj)) (qni (vC (cInt .i64)) (qni (vC (cInt .i64)) (qni (vC (cInt .i64)) (qnk (vC cBool))))))))) (qnk (qt8 (bRow qdg)))) [false,false] [] (by decide) (fun _=>rfl)
def qoh:=sLS [1,2,3,4,5,6,13,14,36] (qni (vC (cSl qdh)) (qni (vC (cSl qdk)) (qni (vC (cInt .i64)) (qni (vC (cInt .i64)) (qni (vC (cInt .i64)) (qni (vPtr 0 0) (qni (vRow 1) (qni (vC (cInt .i64)) (qnk (vC cBool)))))))))) (qni (qt8 (bBox (qni (vC cStr) (qni (vC (cSl qdj)) (qni (vC (cInt .i64)) (qni (vC (cInt .i64)) (qni (vC (cInt .i64)) (qnk (vC cBool))))))))) (qnk (qt8 (bRow qdg)))) [false,false] [] (by decide) (fun _=>rfl)
def qog:=sLS [12] (qnk (vC cBool)) qnj [] [] (by decide) (fun _=>rfl)
def qof:=oOr 1 qog (oAt 2 qoh) (fun x=>(by decide:(2:Nat)≠1))
def qoc (events:(List (List S86))) (zone:(List S77)) (length:Int) (from_:Int) (to_:Int) (calendars:Nat) (i:Int) (b0:ByteArray) (b0_1:(List S43)) (b0_2:Int) (b0_3:Int) (b0_4:Int) (b0_5:Bool) (b1:(List (List S24))):Option ((Bool×Unit)⊕(((List (List S86))×(List S77)×Int×Int×Int×Unit×Nat×Int×Bool)×((ByteArray×(List S43)×Int×Int×Int×Bool)×(List (List S24))))):=lS Tryz.prog lv X1 3 155 (qix (cdF Tryz.f3) 5) qoi qof ((events,zone,length,from_,to_,(),calendars,i),((b0,b0_1,b0_2,b0_3,b0_4,b0_5),b1))
def qoj (events:(List (List S86))) (zone:(List S77)) (length:Int) (from_:Int) (to_:Int) (calendars:Nat) (i:Int) (b0:ByteArray) (b0_1:(List S43)) (b0_2:Int) (b0_3:Int) (b0_4:Int) (b0_5:Bool) (b1:(List (List S24))):Option ((Bool×Unit)⊕(((List (List S86))×(List S77)×Int×Int×Int×Unit×Nat×Int×Bool)×((ByteArray×(List S43)×Int×Int×Int×Bool)×(List (List S24))))) :=
 (brE (decide (i<(List.length (EC.encL qdh events):Int)))
 (gdE (decide (0≤i))<|
 (gdE ((decide ((Int.toNat i)<(List.length (EC.encL qdh events))))&&(isE [K1.sl] 0 (List.getD (EC.encL qdh events) (Int.toNat i) [])))<|
 (gdE (EC.isL qdl (slOf (List.getD (List.getD (EC.encL qdh events) (Int.toNat i) []) 0 C.ne)))<|
 (gdE (EC.isL qdk (EC.encL qdk zone))<|
 ((fbOf_s (EC.decL qdl (slOf (List.getD (List.getD (EC.encL qdh events) (Int.toNat i) []) 0 C.ne))) (EC.decL qdk (EC.encL qdk zone)) from_ to_).bind fun r0 =>
 (brE (r0.1.2.1 != 0)
 (some (.inl (true,())))
 (gdE ((((List.all [[(C.sl (EC.encL qde r0.2))]] (fun (el:(List C))=>((List.length el)==1)))&&(List.all (EC.encL qdg b1) (fun (el:(List C))=>((List.length el)==1))))&&(decide (((((calendars+(List.length [[(C.sl (EC.encL qde r0.2))]]))+((calendars+(List.length [[(C.sl (EC.encL qde r0.2))]])) / 4))+192)*24)≤281474976710656)))&&(decide ((calendars+(List.length [[(C.sl (EC.encL qde r0.2))]]))≤9223372036854775807)))<|
 (gdE (EC.isL qdh (EC.encL qdh events))<|
 (gdE (EC.isL qdk (EC.encL qdk zone))<|
 (gdE (EC.isL qdj (EC.encL qdj b0_1))<|
 (gdE (EC.isL qdg ((EC.encL qdg b1)++[[(C.sl (EC.encL qde r0.2))]]))<|
 (qoc (EC.decL qdh (EC.encL qdh events)) (EC.decL qdk (EC.encL qdk zone)) length from_ to_ (calendars+(List.length [[(C.sl (EC.encL qde r0.2))]])) (IntKind.wrap .i64 (i+1)) b0 (EC.decL qdj (EC.encL qdj b0_1)) b0_2 b0_3 b0_4 b0_5 (EC.decL qdg ((EC.encL qdg b1)++[[(C.sl (EC.encL qde r0.2))]]))))))))))))))
 (gdE (EC.isL qdh (EC.encL qdh events))<|
 (gdE (EC.isL qdk (EC.encL qdk zone))<|
 (gdE (EC.isL qdj (EC.encL qdj b0_1))<|
 (gdE (EC.isL qdg (EC.encL qdg b1))<|
 (some (.inr (((EC.decL qdh (EC.encL qdh events)),((EC.decL qdk (EC.encL qdk zone)),(length,(from_,(to_,((),(calendars,(i,false)))))))),((b0,((EC.decL qdj (EC.encL qdj b0_1)),(b0_2,(b0_3,(b0_4,b0_5))))),(EC.decL qdg (EC.encL qdg b1)))))))))))
theorem qoe {events zone length from_ to_ calendars i b0 b0_1 b0_2 b0_3 b0_4 b0_5 b1 r} (h:qoj events zone length from_ to_ calendars i b0 b0_1 b0_2 b0_3 b0_4 b0_5 b1=some r):qoc events zone length from_ to_ calendars i b0 b0_1 b0_2 b0_3 b0_4 b0_5 b1=some r :=
 qnm (es:=q125) (hs:=[]) [] (by kernel_rfl) trivial trivial (by kernel_rfl) h
def qod:=qp9 Tryz.prog lv X1 5 (qix (cdF Tryz.f3) 5) qoi qof (fun x=>qoc x.1.1 x.1.2.1 x.1.2.2.1 x.1.2.2.2.1 x.1.2.2.2.2.1 x.1.2.2.2.2.2.2.1 x.1.2.2.2.2.2.2.2 x.2.1.1 x.2.1.2.1 x.2.1.2.2.1 x.2.1.2.2.2.1 x.2.1.2.2.2.2.1 x.2.1.2.2.2.2.2 x.2.2) (fun _ _ h=>qnl h)
def qo2:=sLS [1,2,6,17,20,21] (qni (vC (cSl qdh)) (qni (vC (cSl qdk)) (qni (vPtr 0 0) (qni (vPtr 1 0) (qni (vPtr 2 0) (qnk (vC (cInt .i64)))))))) (qni (qt8 (bBox (qni (vC cStr) (qni (vC (cSl qdj)) (qni (vC (cInt .i64)) (qni (vC (cInt .i64)) (qni (vC (cInt .i64)) (qnk (vC cBool))))))))) (qni (qt8 (bBox (qni (vC (cInt .i64)) (qnk (vC (cInt .i64)))))) (qni (qt8 (bBox (qni (vC cStr) (qni (vRow 3) (qni (vC (cInt .i64)) (qni (vC (cInt .i64)) (qni (vC (cInt .i64)) (qnk (vC cBool))))))))) (qnk (qt8 (bRow qdj)))))) [false,false,false,false] [] (by decide) (fun _=>rfl)
def qo1:=sLS [1,2,6,17,20,21,89] (qni (vC (cSl qdh)) (qni (vC (cSl qdk)) (qni (vPtr 0 0) (qni (vPtr 1 0) (qni (vPtr 2 0) (qni (vC (cInt .i64)) (qnk (vC cBool)))))))) (qni (qt8 (bBox (qni (vC cStr) (qni (vC (cSl qdj)) (qni (vC (cInt .i64)) (qni (vC (cInt .i64)) (qni (vC (cInt .i64)) (qnk (vC cBool))))))))) (qni (qt8 (bBox (qni (vC (cInt .i64)) (qnk (vC (cInt .i64)))))) (qni (qt8 (bBox (qni (vC cStr) (qni (vRow 3) (qni (vC (cInt .i64)) (qni (vC (cInt .i64)) (qni (vC (cInt .i64)) (qnk (vC cBool))))))))) (qnk (qt8 (bRow qdj)))))) [false,false,false,false] [] (by decide) (fun _=>rfl)
def qo0:=sLS [12] (qnk (vC cBool)) qnj [] [] (by decide) (fun _=>rfl)
def qnz:=oOr 1 qo0 (oAt 4 qo1) (fun x=>(by decide:(4:Nat)≠1))
def qnw (events:(List (List S86))) (zone:(List S77)) (i:Int) (b0:ByteArray) (b0_1:(List S43)) (b0_2:Int) (b0_3:Int) (b0_4:Int) (b0_5:Bool) (b1:Int) (b1_1:Int) (b2:ByteArray) (b2_1:Nat) (b2_2:Int) (b2_3:Int) (b2_4:Int) (b2_5:Bool) (b3:(List S43)):Option ((Bool×Unit)⊕(((List (List S86))×(List S77)×Unit×Unit×Unit×Int×Bool)×((ByteArray×(List S43)×Int×Int×Int×Bool)×(Int×Int)×(ByteArray×Nat×Int×Int×Int×Bool)×(List S43)))):=lS Tryz.prog lv X1 3 155 (qix (cdF Tryz.f3) 18) qo2 qnz ((events,zone,(),(),(),i),((b0,b0_1,b0_2,b0_3,b0_4,b0_5),(b1,b1_1),(b2,b2_1,b2_2,b2_3,b2_4,b2_5),b3))
def qo3 (events:(List (List S86))) (zone:(List S77)) (i:Int) (b0:ByteArray) (b0_1:(List S43)) (b0_2:Int) (b0_3:Int) (b0_4:Int) (b0_5:Bool) (b1:Int) (b1_1:Int) (b2:ByteArray) (b2_1:Nat) (b2_2:Int) (b2_3:Int) (b2_4:Int) (b2_5:Bool) (b3:(List S43)):Option ((Bool×Unit)⊕(((List (List S86))×(List S77)×Unit×Unit×Unit×Int×Bool)×((ByteArray×(List S43)×Int×Int×Int×Bool)×(Int×Int)×(ByteArray×Nat×Int×Int×Int×Bool)×(List S43)))) :=
 (brE (decide (i<(List.length (EC.encL qdj b0_1):Int)))
 (gdE (decide (0≤i))<|
 (gdE ((decide ((Int.toNat i)<(List.length (EC.encL qdj b0_1))))&&(isE [K1.str,(K1.int Go.IntKind.i64),(K1.int Go.IntKind.i64),(K1.int Go.IntKind.i64)] 0 (List.getD (EC.encL qdj b0_1) (Int.toNat i) [])))<|
 (gdE (EC.isL qdj (EC.encL qdj b3))<|
 ((qqc b2 (EC.decL qdj (EC.encL qdj b3)) b2_2 b2_3 b2_4 b2_5 (q10v (List.getD (List.getD (EC.encL qdj b0_1) (Int.toNat i) []) 0 C.ne)) 1 0 0).bind fun r0 =>
 (brE (r0.1.2.1 != 0)
 (some (.inl (false,())))
 (gdE (EC.isL qdh (EC.encL qdh events))<|
 (gdE (EC.isL qdk (EC.encL qdk zone))<|
 (gdE (EC.isL qdj (EC.encL qdj b0_1))<|
 (gdE (EC.isL qdj (EC.encL qdj r0.2))<|
 (qnw (EC.decL qdh (EC.encL qdh events)) (EC.decL qdk (EC.encL qdk zone)) (IntKind.wrap .i64 (i+1)) b0 (EC.decL qdj (EC.encL qdj b0_1)) b0_2 b0_3 b0_4 b0_5 b1 b1_1 r0.1.1.1 r0.1.1.2.1 r0.1.1.2.2.1 r0.1.1.2.2.2.1 r0.1.1.2.2.2.2.1 r0.1.1.2.2.2.2.2 (EC.decL qdj (EC.encL qdj r0.2))))))))))))
 (gdE (EC.isL qdh (EC.encL qdh events))<|
 (gdE (EC.isL qdk (EC.encL qdk zone))<|
 (gdE (EC.isL qdj (EC.encL qdj b0_1))<|
 (gdE (EC.isL qdj (EC.encL qdj b3))<|
 (some (.inr (((EC.decL qdh (EC.encL qdh events)),((EC.decL qdk (EC.encL qdk zone)),((),((),((),(i,false)))))),((b0,((EC.decL qdj (EC.encL qdj b0_1)),(b0_2,(b0_3,(b0_4,b0_5))))),((b1,b1_1),((b2,(b2_1,(b2_2,(b2_3,(b2_4,b2_5))))),(EC.decL qdj (EC.encL qdj b3)))))))))))))
theorem qny {events zone i b0 b0_1 b0_2 b0_3 b0_4 b0_5 b1 b1_1 b2 b2_1 b2_2 b2_3 b2_4 b2_5 b3 r} (h:qo3 events zone i b0 b0_1 b0_2 b0_3 b0_4 b0_5 b1 b1_1 b2 b2_1 b2_2 b2_3 b2_4 b2_5 b3=some r):qnw events zone i b0 b0_1 b0_2 b0_3 b0_4 b0_5 b1 b1_1 b2 b2_1 b2_2 b2_3 b2_4 b2_5 b3=some r :=
 qnm (es:=q125) (hs:=[]) [] (by kernel_rfl) trivial trivial (by kernel_rfl) h
def qnx:=qp9 Tryz.prog lv X1 18 (qix (cdF Tryz.f3) 18) qo2 qnz (fun x=>qnw x.1.1 x.1.2.1 x.1.2.2.2.2.2 x.2.1.1 x.2.1.2.1 x.2.1.2.2.1 x.2.1.2.2.2.1 x.2.1.2.2.2.2.1 x.2.1.2.2.2.2.2 x.2.2.1.1 x.2.2.1.2 x.2.2.2.1.1 x.2.2.2.1.2.1 x.2.2.2.1.2.2.1 x.2.2.2.1.2.2.2.1 x.2.2.2.1.2.2.2.2.1 x.2.2.2.1.2.2.2.2.2 x.2.2.2.2) (fun _ _ h=>qnl h)
def qoa:=sLS [1,2,17,20,24,25,26] (qni (vC (cSl qdh)) (qni (vC (cSl qdk)) (qni (vPtr 0 0) (qni (vPtr 1 0) (qni (vC cBool) (qni (vPtr 2 0) (qnk (vC (cInt .i64))))))))) (qni (qt8 (bBox (qni (vC (cInt .i64)) (qnk (vC (cInt .i64)))))) (qni (qt8 (bBox (qni (vC cStr) (qni (vRow 3) (qni (vC (cInt .i64)) (qni (vC (cInt .i64)) (qni (vC (cInt .i64)) (qnk (vC cBool))))))))) (qni (qt8 (bBox (qni (vC (cInt .i64)) (qnk (vC (cInt .i64)))))) (qnk (qt8 (bRow qdj)))))) [false,false,false,false] [] (by decide) (fun _=>rfl)
def qo9:=sLS [1,2,17,20,24,25,26,116] (qni (vC (cSl qdh)) (qni (vC (cSl qdk)) (qni (vPtr 0 0) (qni (vPtr 1 0) (qni (vC cBool) (qni (vPtr 2 0) (qni (vC (cInt .i64)) (qnk (vC cBool))))))))) (qni (qt8 (bBox (qni (vC (cInt .i64)) (qnk (vC (cInt .i64)))))) (qni (qt8 (bBox (qni (vC cStr) (qni (vRow 3) (qni (vC (cInt .i64)) (qni (vC (cInt .i64)) (qni (vC (cInt .i64)) (qnk (vC cBool))))))))) (qni (qt8 (bBox (qni (vC (cInt .i64)) (qnk (vC (cInt .i64)))))) (qnk (qt8 (bRow qdj)))))) [false,false,false,false] [] (by decide) (fun _=>rfl)
def qo8:=sLS [12] (qnk (vC cBool)) qnj [] [] (by decide) (fun _=>rfl)
def qo7:=oOr 1 qo8 (oAt 6 qo9) (fun x=>(by decide:(6:Nat)≠1))
def qo4 (events:(List (List S86))) (zone:(List S77)) (done:Bool) (i:Int) (b0:Int) (b0_1:Int) (b1:ByteArray) (b1_1:Nat) (b1_2:Int) (b1_3:Int) (b1_4:Int) (b1_5:Bool) (b2:Int) (b2_1:Int) (b3:(List S43)):Option ((Bool×Unit)⊕(((List (List S86))×(List S77)×Unit×Unit×Bool×Unit×Int×Bool)×((Int×Int)×(ByteArray×Nat×Int×Int×Int×Bool)×(Int×Int)×(List S43)))):=lS Tryz.prog lv X1 3 155 (qix (cdF Tryz.f3) 26) qoa qo7 ((events,zone,(),(),done,(),i),((b0,b0_1),(b1,b1_1,b1_2,b1_3,b1_4,b1_5),(b2,b2_1),b3))
def qob (events:(List (List S86))) (zone:(List S77)) (done:Bool) (i:Int) (b0:Int) (b0_1:Int) (b1:ByteArray) (b1_1:Nat) (b1_2:Int) (b1_3:Int) (b1_4:Int) (b1_5:Bool) (b2:Int) (b2_1:Int) (b3:(List S43)):Option ((Bool×Unit)⊕(((List (List S86))×(List S77)×Unit×Unit×Bool×Unit×Int×Bool)×((Int×Int)×(ByteArray×Nat×Int×Int×Int×Bool)×(Int×Int)×(List S43)))) :=
 (brE (decide (i<(List.length (EC.encL qdh events):Int)))
 (gdE (decide (0≤i))<|
 (gdE ((decide ((Int.toNat i)<(List.length (EC.encL qdh events))))&&(isE [K1.sl] 0 (List.getD (EC.encL qdh events) (Int.toNat i) [])))<|
 (gdE (EC.isL qdl (slOf (List.getD (List.getD (EC.encL qdh events) (Int.toNat i) []) 0 C.ne)))<|
 (gdE (EC.isL qdk (EC.encL qdk zone))<|
 ((fbOf_s (EC.decL qdl (slOf (List.getD (List.getD (EC.encL qdh events) (Int.toNat i) []) 0 C.ne))) (EC.decL qdk (EC.encL qdk zone)) b0 b0_1).bind fun r0 =>
 (brE ((r0.1.2.1 != 0)==false)
 (brE (decide (((r0.1.1:Nat):Int)>0))
 (some (.inl (false,())))
 (gdE (EC.isL qdh (EC.encL qdh events))<|
 (gdE (EC.isL qdk (EC.encL qdk zone))<|
 (gdE (EC.isL qdj (EC.encL qdj b3))<|
 (qo4 (EC.decL qdh (EC.encL qdh events)) (EC.decL qdk (EC.encL qdk zone)) done (IntKind.wrap .i64 (i+1)) b0 b0_1 b1 b1_1 b1_2 b1_3 b1_4 b1_5 b2 b2_1 (EC.decL qdj (EC.encL qdj b3)))))))
 (some (.inl (false,())))))))))
 (gdE (EC.isL qdh (EC.encL qdh events))<|
 (gdE (EC.isL qdk (EC.encL qdk zone))<|
 (gdE (EC.isL qdj (EC.encL qdj b3))<|
 (some (.inr (((EC.decL qdh (EC.encL qdh events)),((EC.decL qdk (EC.encL qdk zone)),((),((),(done,((),(i,false))))))),((b0,b0_1),((b1,(b1_1,(b1_2,(b1_3,(b1_4,b1_5))))),((b2,b2_1),(EC.decL qdj (EC.encL qdj b3))))))))))))
theorem qo6 {events zone done i b0 b0_1 b1 b1_1 b1_2 b1_3 b1_4 b1_5 b2 b2_1 b3 r} (h:qob events zone done i b0 b0_1 b1 b1_1 b1_2 b1_3 b1_4 b1_5 b2 b2_1 b3=some r):qo4 events zone done i b0 b0_1 b1 b1_1 b1_2 b1_3 b1_4 b1_5 b2 b2_1 b3=some r :=
 qnm (es:=q125) (hs:=[]) [] (by kernel_rfl) trivial trivial (by kernel_rfl) h
def qo5:=qp9 Tryz.prog lv X1 26 (qix (cdF Tryz.f3) 26) qoa qo7 (fun x=>qo4 x.1.1 x.1.2.1 x.1.2.2.2.2.1 x.1.2.2.2.2.2.2 x.2.1.1 x.2.1.2 x.2.2.1.1 x.2.2.1.2.1 x.2.2.1.2.2.1 x.2.2.1.2.2.2.1 x.2.2.1.2.2.2.2.1 x.2.2.1.2.2.2.2.2 x.2.2.2.1.1 x.2.2.2.1.2 x.2.2.2.2) (fun _ _ h=>qnl h)
def qnt:Cod (V×List B) Bool:=(cFstU (cPair (vC cBool) qnj))
def qom (m_Organizer:ByteArray) (m_Guests:(List S43)) (m_Round:Int) (m_Proposed_From:Int) (m_Proposed_To:Int) (m_Cancelled:Bool) (events:(List (List S86))) (zone:(List S77)) (length:Int) (from_:Int) (to_:Int):Option Bool:=fS Tryz.prog lv X1 3 qnr qnt ((m_Organizer,m_Guests,m_Round,m_Proposed_From,m_Proposed_To,m_Cancelled),events,zone,length,from_,to_)
def qoo (m_Organizer:ByteArray) (m_Guests:(List S43)) (m_Round:Int) (m_Proposed_From:Int) (m_Proposed_To:Int) (m_Cancelled:Bool) (events:(List (List S86))) (zone:(List S77)) (length:Int) (from_:Int) (to_:Int):Option Bool :=
 (brE (decide ((List.length (EC.encL qdh events):Int)>5))
 (some true)
 (gdE (EC.isL qdh (EC.encL qdh events))<|
 (gdE (EC.isL qdk (EC.encL qdk zone))<|
 (gdE (EC.isL qdj (EC.encL qdj m_Guests))<|
 ((qoc (EC.decL qdh (EC.encL qdh events)) (EC.decL qdk (EC.encL qdk zone)) length from_ to_ 0 0 m_Organizer (EC.decL qdj (EC.encL qdj m_Guests)) m_Round m_Proposed_From m_Proposed_To m_Cancelled (EC.decL qdg [])).bind fun r0 =>
 (Sum.elim (fun r1=>(some r1.1))
 (fun r1=>(gdE (EC.isL qdg (EC.encL qdg r1.2.2))<|
 ((qqq (EC.decL qdg (EC.encL qdg r1.2.2)) r1.1.2.2.1 r1.1.2.2.2.1 r1.1.2.2.2.2.1).bind fun r2 =>
 (brE ((r2.2.2.1 != 0)==false)
 (brE (!r2.2.1)
 (some true)
 (gdE (EC.isL qdj (EC.encL qdj r1.2.1.2.1))<|
 ((qqw r1.2.1.1 (EC.decL qdj (EC.encL qdj r1.2.1.2.1)) r1.2.1.2.2.1 r1.2.1.2.2.2.1 r1.2.1.2.2.2.2.1 r1.2.1.2.2.2.2.2 r2.1.1 r2.1.2).bind fun r3 =>
 (brE (r3.1.2.1 != 0)
 (some true)
 (gdE (EC.isL qdh (EC.encL qdh r1.1.1))<|
 (gdE (EC.isL qdk (EC.encL qdk r1.1.2.1))<|
 (gdE (EC.isL qdj (EC.encL qdj r1.2.1.2.1))<|
 (gdE (EC.isL qdj (EC.encL qdj r3.2))<|
 ((qnw (EC.decL qdh (EC.encL qdh r1.1.1)) (EC.decL qdk (EC.encL qdk r1.1.2.1)) 0 r1.2.1.1 (EC.decL qdj (EC.encL qdj r1.2.1.2.1)) r1.2.1.2.2.1 r1.2.1.2.2.2.1 r1.2.1.2.2.2.2.1 r1.2.1.2.2.2.2.2 r2.1.1 r2.1.2 r3.1.1.1 r3.1.1.2.1 r3.1.1.2.2.1 r3.1.1.2.2.2.1 r3.1.1.2.2.2.2.1 r3.1.1.2.2.2.2.2 (EC.decL qdj (EC.encL qdj r3.2))).bind fun r4 =>
 (Sum.elim (fun r5=>(some r5.1))
 (fun r5=>(gdE (EC.isL qdj (EC.encL qdj r5.2.2.2.2))<|
 ((qq6 r5.2.2.2.1.1 (EC.decL qdj (EC.encL qdj r5.2.2.2.2)) r5.2.2.2.1.2.2.1 r5.2.2.2.1.2.2.2.1 r5.2.2.2.1.2.2.2.2.1 r5.2.2.2.1.2.2.2.2.2).bind fun r6 =>
 (gdE (EC.isL qdh (EC.encL qdh r5.1.1))<|
 (gdE (EC.isL qdk (EC.encL qdk r5.1.2.1))<|
 (gdE (EC.isL qdj (EC.encL qdj r5.2.2.2.2))<|
 ((qo4 (EC.decL qdh (EC.encL qdh r5.1.1)) (EC.decL qdk (EC.encL qdk r5.1.2.1)) r6.1 0 r5.2.2.1.1 r5.2.2.1.2 r5.2.2.2.1.1 r5.2.2.2.1.2.1 r5.2.2.2.1.2.2.1 r5.2.2.2.1.2.2.2.1 r5.2.2.2.1.2.2.2.2.1 r5.2.2.2.1.2.2.2.2.2 r6.2.1 r6.2.2 (EC.decL qdj (EC.encL qdj r5.2.2.2.2))).bind fun r7 =>
 (Sum.elim (fun r8=>(some r8.1))
 (fun r8=>(brE ((r8.2.2.2.1.1==0)==true)
 (brE (r8.1.2.2.2.2.1==true)
 (brE (((r8.2.2.1.2.2.2.1==r8.2.1.1)&&((r8.2.2.1.2.2.2.2.1==r8.2.1.2)&&true))==true)
 (some true)
 (some false))
 (some false))
 (some false))) r7)))))))) r4))))))))))
 (some true))))) r0))))))
theorem qnu {m_Organizer m_Guests m_Round m_Proposed_From m_Proposed_To m_Cancelled events zone length from_ to_ r} (h:qoo m_Organizer m_Guests m_Round m_Proposed_From m_Proposed_To m_Cancelled events zone length from_ to_=some r):qom m_Organizer m_Guests m_Round m_Proposed_From m_Proposed_To m_Cancelled events zone length from_ to_=some r :=
 qf4 (es:=q125) (hs:=[]) [qod,qnx,qo5] Tryz.func3 rfl (by kernel_rfl) rfl (by kernel_rfl) (by kernel_rfl) ⟨⟨_,rfl,rfl⟩,⟨_,rfl,rfl⟩,⟨_,rfl,rfl⟩,trivial⟩ trivial (by kernel_rfl) h
end
end Go.Proofs.YtfakibajjibjjaaGreatDoor
