/- Functions of the program as plain functions: made by program from the machine. -/
import Derived.Test.YtjlkjiifkganoaaGreatZ27
namespace Go.Proofs.YtjlkjiifkganoaaGreat
open Go.RowKit
set_option maxRecDepth 100000
noncomputable section
def q3g:=(qhl (vC (cInt .i64)) (qhn (vC (cInt .i64))))
def q3h:Cod (V×List B) (Int×Int):=(cFstU (cPair (vAgg (qhl (vC (cInt .i64)) (qhn (vC (cInt .i64))))) qhm))
def q3k (code:Int) (at_:Int):Option (Int×Int):=fS Tryz.prog lv X1 13 q3g q3h (code,at_)
def q3l (code:Int) (at_:Int):Option (Int×Int) :=
 (some (code,at_))
theorem q3j {code at_ r} (h:q3l code at_=some r):q3k code at_=some r :=
 qbx (es:=tab1) (hs:=[]) [] Tryz.func13 rfl (by kernel_rfl) rfl (by kernel_rfl) (by kernel_rfl) trivial trivial (by kernel_rfl) h
def q3i:=entS Tryz.prog lv X1 13 [] q3g q3h (fun x=>q3k x.1 x.2) (fun _ _ h=>qbw h)
def qu5:=q3i::tab1
def q3o:Cod (List V) Unit:=qhm
def q3p:Cod (V×List B) (Int×Int):=(cFstU (cPair (vAgg (qhl (vC (cInt .i64)) (qhn (vC (cInt .i64))))) qhm))
def q3s :Option (Int×Int):=fS Tryz.prog lv X1 18 q3o q3p ()
def q3t :Option (Int×Int) :=
 (some (0,0))
theorem q3r {r} (h:q3t =some r):q3s =some r :=
 qbx (es:=qu5) (hs:=[]) [] Tryz.func18 rfl (by kernel_rfl) rfl (by kernel_rfl) (by kernel_rfl) trivial trivial (by kernel_rfl) h
def q3q:=entS Tryz.prog lv X1 18 [] q3o q3p (fun x=>q3s ) (fun _ _ h=>qbw h)
def qu6:=q3q::qu5
def q3a:=(qhn (vAgg (qhl (vC (cInt .i64)) (qhn (vC (cInt .i64))))))
def q3b:Cod (V×List B) Bool:=(cFstU (cPair (vC cBool) qhm))
def q3e (f_Code:Int) (f_Index:Int):Option Bool:=fS Tryz.prog lv X1 15 q3a q3b (f_Code,f_Index)
def q3f (f_Code:Int) (f_Index:Int):Option Bool :=
 (some (f_Code != 0))
theorem q3d {f_Code f_Index r} (h:q3f f_Code f_Index=some r):q3e f_Code f_Index=some r :=
 qbx (es:=qu6) (hs:=[]) [] Tryz.func15 rfl (by kernel_rfl) rfl (by kernel_rfl) (by kernel_rfl) trivial trivial (by kernel_rfl) h
def q3c:=entS Tryz.prog lv X1 15 [] q3a q3b (fun x=>q3e x.1 x.2) (fun _ _ h=>qbw h)
def qu4:=q3c::qu6
def q3u:=(qhn (vC (cInt .i64)))
def q3v:Cod (V×List B) Bool:=(cFstU (cPair (vC cBool) qhm))
def q3y (t:Int):Option Bool:=fS Tryz.prog lv X1 26 q3u q3v t
def q3z (t:Int):Option Bool :=
 (brE ((decide (t≥(-68719476736)))==true)
 (some (decide (t≤68719476736)))
 (some false))
theorem q3x {t r} (h:q3z t=some r):q3y t=some r :=
 qbx (es:=qu4) (hs:=[]) [] Tryz.func26 rfl (by kernel_rfl) rfl (by kernel_rfl) (by kernel_rfl) trivial trivial (by kernel_rfl) h
def q3w:=entS Tryz.prog lv X1 26 [] q3u q3v (fun x=>q3y x) (fun _ _ h=>qbw h)
def qu7:=q3w::qu4
def qdz:=(qhn (vC (cSl qan)))
def qe9:=sLS [2,9,10,11] (qhl (vPtr 0 0) (qhl (vC (cSl qan)) (qhl (vC (cInt .i64)) (qhn (vC (cInt .i64)))))) (qhn (qkg (bBox (qhl (vC (cInt .i64)) (qhn (vC (cInt .i64))))))) [false] [] (by decide) (fun _=>rfl)
def qe8:=sLS [2,9,10,11,12] (qhl (vPtr 0 0) (qhl (vC (cSl qan)) (qhl (vC (cInt .i64)) (qhl (vC (cInt .i64)) (qhn (vC cBool)))))) (qhn (qkg (bBox (qhl (vC (cInt .i64)) (qhn (vC (cInt .i64))))))) [false] [] (by decide) (fun _=>rfl)
def qe7:=sLS [2] (qhn (vPtr 0 0)) (qhn (qkg (bBox (qhl (vC (cInt .i64)) (qhn (vC (cInt .i64))))))) [false] [] (by decide) (fun _=>rfl)
def qe6:=oOr 1 qe7 (oAt 2 qe8) (fun x=>(by decide:(2:Nat)≠1))
def qe3 (t9:(List S47)) (t10:Int) (t11:Int) (b0:Int) (b0_1:Int):Option ((Unit×(Int×Int))⊕((Unit×(List S47)×Int×Int×Bool)×(Int×Int))):=lS Tryz.prog lv X1 60 37 (qfp (cdF Tryz.f60) 4) qe9 qe6 (((),t9,t10,t11),(b0,b0_1))
def qea (t9:(List S47)) (t10:Int) (t11:Int) (b0:Int) (b0_1:Int):Option ((Unit×(Int×Int))⊕((Unit×(List S47)×Int×Int×Bool)×(Int×Int))) :=
 (brE (decide (t11<t10))
 (gdE (decide (0≤t11))<|
 (gdE ((decide ((Int.toNat t11)<(List.length (EC.encL qan t9))))&&(isE [(K1.int Go.IntKind.i64),(K1.int Go.IntKind.i64)] 0 (List.getD (EC.encL qan t9) (Int.toNat t11) [])))<|
 ((q3y (qgm (List.getD (List.getD (EC.encL qan t9) (Int.toNat t11) []) 0 C.ne))).bind fun r0 =>
 (brE ((!r0)==false)
 ((q3y (qgm (List.getD (List.getD (EC.encL qan t9) (Int.toNat t11) []) 1 C.ne))).bind fun r1 =>
 (brE (!r1)
 ((q3k 3 t11).bind fun r2 =>
 (some (.inl ((),(r2.1,r2.2)))))
 (brE (decide ((qgm (List.getD (List.getD (EC.encL qan t9) (Int.toNat t11) []) 0 C.ne))>(qgm (List.getD (List.getD (EC.encL qan t9) (Int.toNat t11) []) 1 C.ne))))
 ((q3k 19 t11).bind fun r2 =>
 (some (.inl ((),(r2.1,r2.2)))))
 (gdE (EC.isL qan (EC.encL qan t9))<|
 (qe3 (EC.decL qan (EC.encL qan t9)) t10 (IntKind.wrap .i64 (t11+1)) b0 b0_1)))))
 ((q3k 3 t11).bind fun r1 =>
 (some (.inl ((),(r1.1,r1.2)))))))))
 (gdE (EC.isL qan (EC.encL qan t9))<|
 (some (.inr (((),((EC.decL qan (EC.encL qan t9)),(t10,(t11,false)))),(b0,b0_1))))))
theorem qe5 {t9 t10 t11 b0 b0_1 r} (h:qea t9 t10 t11 b0 b0_1=some r):qe3 t9 t10 t11 b0 b0_1=some r :=
 qhp (es:=qu7) (hs:=[]) [] (by kernel_rfl) trivial trivial (by kernel_rfl) h
def qe4:=qj2 Tryz.prog lv X1 4 (qfp (cdF Tryz.f60) 4) qe9 qe6 (fun x=>qe3 x.1.2.1 x.1.2.2.1 x.1.2.2.2 x.2.1 x.2.2) (fun _ _ h=>qho h)
def qe0:Cod (V×List B) (Int×Int):=(cFstU (cPair (vAgg (qhl (vC (cInt .i64)) (qhn (vC (cInt .i64))))) qhm))
def qeb (l:(List S47)):Option (Int×Int):=fS Tryz.prog lv X1 60 qdz qe0 l
def qec (l:(List S47)):Option (Int×Int) :=
 (brE (decide ((List.length (EC.encL qan l):Int)>500))
 ((q3k 2 (-1)).bind fun r0 =>
 (some (r0.1,r0.2)))
 (gdE (EC.isL qan (EC.encL qan l))<|
 ((qe3 (EC.decL qan (EC.encL qan l)) (List.length (EC.encL qan l):Int) 0 0 0).bind fun r0 =>
 (Sum.elim (fun r1=>(some (r1.2.1,r1.2.2)))
 (fun r1=>(Option.bind q3s fun r2 =>
 (some (r2.1,r2.2)))) r0))))
theorem qe2 {l r} (h:qec l=some r):qeb l=some r :=
 qbx (es:=qu7) (hs:=[]) [qe4] Tryz.func60 rfl (by kernel_rfl) rfl (by kernel_rfl) (by kernel_rfl) ⟨⟨_,rfl,rfl⟩,trivial⟩ trivial (by kernel_rfl) h
def qe1:=entS Tryz.prog lv X1 60 [] qdz qe0 (fun x=>qeb x) (fun _ _ h=>qbw h)
def quv:=qe1::qu7
def qf3:=(qhl (vC (cInt .i64)) (qhn (vC (cInt .i64))))
def qf4:Cod (V×List B) (Int×Int):=(cFstU (cPair (vAgg (qhl (vC (cInt .i64)) (qhn (vC (cInt .i64))))) qhm))
def qf7 (from_:Int) (to_:Int):Option (Int×Int):=fS Tryz.prog lv X1 14 qf3 qf4 (from_,to_)
def qf8 (from_:Int) (to_:Int):Option (Int×Int) :=
 ((q3y from_).bind fun r0 =>
 (brE ((!r0)==false)
 ((q3y to_).bind fun r1 =>
 (brE (!r1)
 ((q3k 3 (-2)).bind fun r2 =>
 (some (r2.1,r2.2)))
 (brE (decide (from_>to_))
 ((q3k 19 (-2)).bind fun r2 =>
 (some (r2.1,r2.2)))
 (Option.bind q3s fun r2 =>
 (some (r2.1,r2.2))))))
 ((q3k 3 (-2)).bind fun r1 =>
 (some (r1.1,r1.2)))))
theorem qf6 {from_ to_ r} (h:qf8 from_ to_=some r):qf7 from_ to_=some r :=
 qbx (es:=quv) (hs:=[]) [] Tryz.func14 rfl (by kernel_rfl) rfl (by kernel_rfl) (by kernel_rfl) trivial trivial (by kernel_rfl) h
def qf5:=entS Tryz.prog lv X1 14 [] qf3 qf4 (fun x=>qf7 x.1 x.2) (fun _ _ h=>qbw h)
def quz:=qf5::quv
def qej:=(qhl (vC (cSl qan)) (qhl (vC (cInt .i64)) (qhl (vC (cInt .i64)) (qhn (vC (cInt .i64))))))
def qes:=sLS [2,3,9,10,21,22,23] (qhl (vC (cInt .i64)) (qhl (vC (cInt .i64)) (qhl (vRow 0) (qhl (vC (cInt .i64)) (qhl (vRow 1) (qhl (vC (cInt .i64)) (qhn (vC (cInt .i64))))))))) (qhl (qkg (bRow qan)) (qhn (qkg (bRow qan)))) [false,false] [] (by decide) (fun _=>rfl)
def qer:=sLS [2,3,9,10,21,22,23,24] (qhl (vC (cInt .i64)) (qhl (vC (cInt .i64)) (qhl (vRow 0) (qhl (vC (cInt .i64)) (qhl (vRow 1) (qhl (vC (cInt .i64)) (qhl (vC (cInt .i64)) (qhn (vC cBool))))))))) (qhl (qkg (bRow qan)) (qhn (qkg (bRow qan)))) [false,false] [] (by decide) (fun _=>rfl)
def qeq:=oAt 2 qer
def qen (to_:Int) (length:Int) (out:Nat) (at_:Int) (t21:Nat) (t22:Int) (t23:Int) (b0:(List S47)) (b1:(List S47)):Option ((Int×Int×Nat×Int×Nat×Int×Int×Bool)×((List S47)×(List S47))):=lS Tryz.prog lv X1 61 48 (qfp (cdF Tryz.f61) 4) qes qeq ((to_,length,out,at_,t21,t22,t23),(b0,b1))
def qet (to_:Int) (length:Int) (out:Nat) (at_:Int) (t21:Nat) (t22:Int) (t23:Int) (b0:(List S47)) (b1:(List S47)):Option ((Int×Int×Nat×Int×Nat×Int×Int×Bool)×((List S47)×(List S47))) :=
 (brE (decide (t23<t22))
 (gdE ((decide (0≤t23))&&(decide (t23<((t21:Nat):Int))))<|
 (gdE ((decide ((Int.toNat t23)<(List.length (EC.encL qan b1))))&&((List.length (List.getD (EC.encL qan b1) (Int.toNat t23) []))==2))<|
 (gdE (isP [(K1.int Go.IntKind.i64),(K1.int Go.IntKind.i64)] 0 (List.getD (EC.encL qan b1) (Int.toNat t23) []))<|
 (brE (decide ((IntKind.wrap .i64 ((ite (false=true) (ite ((qgm (List.getD (List.getD (EC.encL qan b1) (Int.toNat t23) []) 0 C.ne))<to_) to_ (qgm (List.getD (List.getD (EC.encL qan b1) (Int.toNat t23) []) 0 C.ne))) (ite (to_<(qgm (List.getD (List.getD (EC.encL qan b1) (Int.toNat t23) []) 0 C.ne))) to_ (qgm (List.getD (List.getD (EC.encL qan b1) (Int.toNat t23) []) 0 C.ne)))) - at_))≥length))
 (gdE ((((List.all [[(C.int Go.IntKind.i64 at_),(C.int Go.IntKind.i64 (ite (false=true) (ite ((qgm (List.getD (List.getD (EC.encL qan b1) (Int.toNat t23) []) 0 C.ne))<to_) to_ (qgm (List.getD (List.getD (EC.encL qan b1) (Int.toNat t23) []) 0 C.ne))) (ite (to_<(qgm (List.getD (List.getD (EC.encL qan b1) (Int.toNat t23) []) 0 C.ne))) to_ (qgm (List.getD (List.getD (EC.encL qan b1) (Int.toNat t23) []) 0 C.ne)))))]] (fun (el:(List C))=>((List.length el)==2)))&&(List.all (EC.encL qan b0) (fun (el:(List C))=>((List.length el)==2))))&&(decide (((((out+(List.length [[(C.int Go.IntKind.i64 at_),(C.int Go.IntKind.i64 (ite (false=true) (ite ((qgm (List.getD (List.getD (EC.encL qan b1) (Int.toNat t23) []) 0 C.ne))<to_) to_ (qgm (List.getD (List.getD (EC.encL qan b1) (Int.toNat t23) []) 0 C.ne))) (ite (to_<(qgm (List.getD (List.getD (EC.encL qan b1) (Int.toNat t23) []) 0 C.ne))) to_ (qgm (List.getD (List.getD (EC.encL qan b1) (Int.toNat t23) []) 0 C.ne)))))]]))+((out+(List.length [[(C.int Go.IntKind.i64 at_),(C.int Go.IntKind.i64 (ite (false=true) (ite ((qgm (List.getD (List.getD (EC.encL qan b1) (Int.toNat t23) []) 0 C.ne))<to_) to_ (qgm (List.getD (List.getD (EC.encL qan b1) (Int.toNat t23) []) 0 C.ne))) (ite (to_<(qgm (List.getD (List.getD (EC.encL qan b1) (Int.toNat t23) []) 0 C.ne))) to_ (qgm (List.getD (List.getD (EC.encL qan b1) (Int.toNat t23) []) 0 C.ne)))))]])) / 4))+192)*16)≤281474976710656)))&&(decide ((out+(List.length [[(C.int Go.IntKind.i64 at_),(C.int Go.IntKind.i64 (ite (false=true) (ite ((qgm (List.getD (List.getD (EC.encL qan b1) (Int.toNat t23) []) 0 C.ne))<to_) to_ (qgm (List.getD (List.getD (EC.encL qan b1) (Int.toNat t23) []) 0 C.ne))) (ite (to_<(qgm (List.getD (List.getD (EC.encL qan b1) (Int.toNat t23) []) 0 C.ne))) to_ (qgm (List.getD (List.getD (EC.encL qan b1) (Int.toNat t23) []) 0 C.ne)))))]]))≤9223372036854775807)))<|
 (gdE (EC.isL qan ((EC.encL qan b0)++[[(C.int Go.IntKind.i64 at_),(C.int Go.IntKind.i64 (ite (false=true) (ite ((qgm (List.getD (List.getD (EC.encL qan b1) (Int.toNat t23) []) 0 C.ne))<to_) to_ (qgm (List.getD (List.getD (EC.encL qan b1) (Int.toNat t23) []) 0 C.ne))) (ite (to_<(qgm (List.getD (List.getD (EC.encL qan b1) (Int.toNat t23) []) 0 C.ne))) to_ (qgm (List.getD (List.getD (EC.encL qan b1) (Int.toNat t23) []) 0 C.ne)))))]]))<|
 (gdE (EC.isL qan (EC.encL qan b1))<|
 (qen to_ length (out+(List.length [[(C.int Go.IntKind.i64 at_),(C.int Go.IntKind.i64 (ite (false=true) (ite ((qgm (List.getD (List.getD (EC.encL qan b1) (Int.toNat t23) []) 0 C.ne))<to_) to_ (qgm (List.getD (List.getD (EC.encL qan b1) (Int.toNat t23) []) 0 C.ne))) (ite (to_<(qgm (List.getD (List.getD (EC.encL qan b1) (Int.toNat t23) []) 0 C.ne))) to_ (qgm (List.getD (List.getD (EC.encL qan b1) (Int.toNat t23) []) 0 C.ne)))))]])) (ite (true=true) (ite (at_<(qgm (List.getD (List.getD (EC.encL qan b1) (Int.toNat t23) []) 1 C.ne))) (qgm (List.getD (List.getD (EC.encL qan b1) (Int.toNat t23) []) 1 C.ne)) at_) (ite ((qgm (List.getD (List.getD (EC.encL qan b1) (Int.toNat t23) []) 1 C.ne))<at_) (qgm (List.getD (List.getD (EC.encL qan b1) (Int.toNat t23) []) 1 C.ne)) at_)) t21 t22 (IntKind.wrap .i64 (t23+1)) (EC.decL qan ((EC.encL qan b0)++[[(C.int Go.IntKind.i64 at_),(C.int Go.IntKind.i64 (ite (false=true) (ite ((qgm (List.getD (List.getD (EC.encL qan b1) (Int.toNat t23) []) 0 C.ne))<to_) to_ (qgm (List.getD (List.getD (EC.encL qan b1) (Int.toNat t23) []) 0 C.ne))) (ite (to_<(qgm (List.getD (List.getD (EC.encL qan b1) (Int.toNat t23) []) 0 C.ne))) to_ (qgm (List.getD (List.getD (EC.encL qan b1) (Int.toNat t23) []) 0 C.ne)))))]])) (EC.decL qan (EC.encL qan b1))))))
 (gdE (EC.isL qan (EC.encL qan b0))<|
 (gdE (EC.isL qan (EC.encL qan b1))<|
 (qen to_ length out (ite (true=true) (ite (at_<(qgm (List.getD (List.getD (EC.encL qan b1) (Int.toNat t23) []) 1 C.ne))) (qgm (List.getD (List.getD (EC.encL qan b1) (Int.toNat t23) []) 1 C.ne)) at_) (ite ((qgm (List.getD (List.getD (EC.encL qan b1) (Int.toNat t23) []) 1 C.ne))<at_) (qgm (List.getD (List.getD (EC.encL qan b1) (Int.toNat t23) []) 1 C.ne)) at_)) t21 t22 (IntKind.wrap .i64 (t23+1)) (EC.decL qan (EC.encL qan b0)) (EC.decL qan (EC.encL qan b1)))))))))
 (gdE (EC.isL qan (EC.encL qan b0))<|
 (gdE (EC.isL qan (EC.encL qan b1))<|
 (some ((to_,(length,(out,(at_,(t21,(t22,(t23,false))))))),((EC.decL qan (EC.encL qan b0)),(EC.decL qan (EC.encL qan b1))))))))
theorem qep {to_ length out at_ t21 t22 t23 b0 b1 r} (h:qet to_ length out at_ t21 t22 t23 b0 b1=some r):qen to_ length out at_ t21 t22 t23 b0 b1=some r :=
 qhp (es:=quz) (hs:=[]) [] (by kernel_rfl) trivial trivial (by kernel_rfl) h
def qeo:=qj2 Tryz.prog lv X1 4 (qfp (cdF Tryz.f61) 4) qes qeq (fun x=>qen x.1.1 x.1.2.1 x.1.2.2.1 x.1.2.2.2.1 x.1.2.2.2.2.1 x.1.2.2.2.2.2.1 x.1.2.2.2.2.2.2 x.2.1 x.2.2) (fun _ _ h=>qho h)
def qek:Cod (V×List B) (Nat×(List S47)):=(cPair (vRow 0) (qhn (bRow qan)))
def qeu (l:(List S47)) (from_:Int) (to_:Int) (length:Int):Option (Nat×(List S47)):=fS Tryz.prog lv X1 61 qej qek (l,from_,to_,length)
def qev (l:(List S47)) (from_:Int) (to_:Int) (length:Int):Option (Nat×(List S47)) :=
 (gdE (EC.isL qan (EC.encL qan l))<|
 ((unionS (EC.decL qan (EC.encL qan l))).bind fun r0 =>
 (gdE ((((List.all [[(C.int Go.IntKind.i64 to_),(C.int Go.IntKind.i64 to_)]] (fun (el:(List C))=>((List.length el)==2)))&&(List.all (EC.encL qan r0.2) (fun (el:(List C))=>((List.length el)==2))))&&(decide (((((r0.1+(List.length [[(C.int Go.IntKind.i64 to_),(C.int Go.IntKind.i64 to_)]]))+((r0.1+(List.length [[(C.int Go.IntKind.i64 to_),(C.int Go.IntKind.i64 to_)]])) / 4))+192)*16)≤281474976710656)))&&(decide ((r0.1+(List.length [[(C.int Go.IntKind.i64 to_),(C.int Go.IntKind.i64 to_)]]))≤9223372036854775807)))<|
 (gdE (EC.isL qan ((EC.encL qan r0.2)++[[(C.int Go.IntKind.i64 to_),(C.int Go.IntKind.i64 to_)]]))<|
 ((qen to_ length 0 from_ (r0.1+(List.length [[(C.int Go.IntKind.i64 to_),(C.int Go.IntKind.i64 to_)]])) (((r0.1+(List.length [[(C.int Go.IntKind.i64 to_),(C.int Go.IntKind.i64 to_)]])):Nat):Int) 0 (EC.decL qan []) (EC.decL qan ((EC.encL qan r0.2)++[[(C.int Go.IntKind.i64 to_),(C.int Go.IntKind.i64 to_)]]))).bind fun r1 =>
 (gdE (EC.isL qan (EC.encL qan r1.2.1))<|
 (some (r1.1.2.2.1,(EC.decL qan (EC.encL qan r1.2.1))))))))))
theorem qem {l from_ to_ length r} (h:qev l from_ to_ length=some r):qeu l from_ to_ length=some r :=
 qbx (es:=quz) (hs:=[]) [qeo] Tryz.func61 rfl (by kernel_rfl) rfl (by kernel_rfl) (by kernel_rfl) ⟨⟨_,rfl,rfl⟩,trivial⟩ trivial (by kernel_rfl) h
def qel:=entS Tryz.prog lv X1 61 [] qej qek (fun x=>qeu x.1 x.2.1 x.2.2.1 x.2.2.2) (fun _ _ h=>qbw h)
def qux:=qel::quz
def qew:=(qhn (vC (cSl qan)))
def qex:Cod (V×List B) ((Nat×(Int×Int))×(List S47)):=(cPair (vTup (qhl (vRow 0) (qhn (vAgg (qhl (vC (cInt .i64)) (qhn (vC (cInt .i64)))))))) (qhn (bRow qan)))
def qf0 (l:(List S47)):Option ((Nat×(Int×Int))×(List S47)):=fS Tryz.prog lv X1 33 qew qex l
def qf1 (l:(List S47)):Option ((Nat×(Int×Int))×(List S47)) :=
 (gdE (EC.isL qan (EC.encL qan l))<|
 ((qeb (EC.decL qan (EC.encL qan l))).bind fun r0 =>
 ((q3e r0.1 r0.2).bind fun r1 =>
 (brE r1
 (some ((0,(r0.1,r0.2)),(EC.decL qan [])))
 (gdE (EC.isL qan (EC.encL qan l))<|
 ((unionS (EC.decL qan (EC.encL qan l))).bind fun r2 =>
 (Option.bind q3s fun r3 =>
 (gdE (EC.isL qan (EC.encL qan r2.2))<|
 (some ((r2.1,(r3.1,r3.2)),(EC.decL qan (EC.encL qan r2.2))))))))))))
theorem qez {l r} (h:qf1 l=some r):qf0 l=some r :=
 qbx (es:=qux) (hs:=[]) [] Tryz.func33 rfl (by kernel_rfl) rfl (by kernel_rfl) (by kernel_rfl) trivial trivial (by kernel_rfl) h
def qey:=entS Tryz.prog lv X1 33 [] qew qex (fun x=>qf0 x) (fun _ _ h=>qbw h)
def quy:=qey::qux
def qed:=(qhl (vC (cSl qan)) (qhl (vC (cInt .i64)) (qhl (vC (cInt .i64)) (qhn (vC (cInt .i64))))))
def qee:Cod (V×List B) ((Nat×(Int×Int))×(List S47)):=(cPair (vTup (qhl (vRow 0) (qhn (vAgg (qhl (vC (cInt .i64)) (qhn (vC (cInt .i64)))))))) (qhn (bRow qan)))
def qeh (l:(List S47)) (from_:Int) (to_:Int) (length:Int):Option ((Nat×(Int×Int))×(List S47)):=fS Tryz.prog lv X1 34 qed qee (l,from_,to_,length)
def qei (l:(List S47)) (from_:Int) (to_:Int) (length:Int):Option ((Nat×(Int×Int))×(List S47)) :=
 (gdE (EC.isL qan (EC.encL qan l))<|
 ((qeb (EC.decL qan (EC.encL qan l))).bind fun r0 =>
 ((q3e r0.1 r0.2).bind fun r1 =>
 (brE r1
 (some ((0,(r0.1,r0.2)),(EC.decL qan [])))
 ((qf7 from_ to_).bind fun r2 =>
 ((q3e r2.1 r2.2).bind fun r3 =>
 (brE r3
 (some ((0,(r2.1,r2.2)),(EC.decL qan [])))
 (brE ((decide (length<1))==false)
 (brE (decide (length>68719476736))
 ((q3k 3 (-3)).bind fun r4 =>
 (some ((0,(r4.1,r4.2)),(EC.decL qan []))))
 (gdE (EC.isL qan (EC.encL qan l))<|
 ((qeu (EC.decL qan (EC.encL qan l)) from_ to_ length).bind fun r4 =>
 (Option.bind q3s fun r5 =>
 (gdE (EC.isL qan (EC.encL qan r4.2))<|
 (some ((r4.1,(r5.1,r5.2)),(EC.decL qan (EC.encL qan r4.2)))))))))
 ((q3k 3 (-3)).bind fun r4 =>
 (some ((0,(r4.1,r4.2)),(EC.decL qan []))))))))))))
theorem qeg {l from_ to_ length r} (h:qei l from_ to_ length=some r):qeh l from_ to_ length=some r :=
 qbx (es:=quy) (hs:=[]) [] Tryz.func34 rfl (by kernel_rfl) rfl (by kernel_rfl) (by kernel_rfl) trivial trivial (by kernel_rfl) h
def qef:=entS Tryz.prog lv X1 34 [] qed qee (fun x=>qeh x.1 x.2.1 x.2.2.1 x.2.2.2) (fun _ _ h=>qbw h)
def quw:=qef::quy
def qlp:=(qhl (vC (cInt .i64)) (qhl (vC (cInt .i64)) (qhn (vC (cInt .i64)))))
def qlq:Cod (V×List B) Bool:=(cFstU (cPair (vC cBool) qhm))
def qlt (n:Int) (low:Int) (high:Int):Option Bool:=fS Tryz.prog lv X1 8 qlp qlq (n,low,high)
def qlu (n:Int) (low:Int) (high:Int):Option Bool :=
 (brE ((decide (low≤n))==true)
 (some (decide (n≤high)))
 (some false))
theorem qls {n low high r} (h:qlu n low high=some r):qlt n low high=some r :=
 qbx (es:=quw) (hs:=[]) [] Tryz.func8 rfl (by kernel_rfl) rfl (by kernel_rfl) (by kernel_rfl) trivial trivial (by kernel_rfl) h
def qlr:=entS Tryz.prog lv X1 8 [] qlp qlq (fun x=>qlt x.1 x.2.1 x.2.2) (fun _ _ h=>qbw h)
def qv3:=qlr::quw
def qlj:=(qhl (vC (cInt .i64)) (qhn (vC (cInt .i64))))
def qlk:Cod (V×List B) (Int×Int):=(cFstU (cPair (vAgg (qhl (vC (cInt .i64)) (qhn (vC (cInt .i64))))) qhm))
def qln (code:Int) (index:Int):Option (Int×Int):=fS Tryz.prog lv X1 5 qlj qlk (code,index)
def qlo (code:Int) (index:Int):Option (Int×Int) :=
 (some (code,index))
theorem qlm {code index r} (h:qlo code index=some r):qln code index=some r :=
 qbx (es:=qv3) (hs:=[]) [] Tryz.func5 rfl (by kernel_rfl) rfl (by kernel_rfl) (by kernel_rfl) trivial trivial (by kernel_rfl) h
def qll:=entS Tryz.prog lv X1 5 [] qlj qlk (fun x=>qln x.1 x.2) (fun _ _ h=>qbw h)
def qv2:=qll::qv3
def qlv:=(qhn (vC (cInt .i64)))
def qlw:Cod (V×List B) Bool:=(cFstU (cPair (vC cBool) qhm))
def qlz (n:Int):Option Bool:=fS Tryz.prog lv X1 19 qlv qlw n
def qm0 (n:Int):Option Bool :=
 ((qlt n (-68719476736) 68719476736).bind fun r0 =>
 (some r0))
theorem qly {n r} (h:qm0 n=some r):qlz n=some r :=
 qbx (es:=qv2) (hs:=[]) [] Tryz.func19 rfl (by kernel_rfl) rfl (by kernel_rfl) (by kernel_rfl) trivial trivial (by kernel_rfl) h
def qlx:=entS Tryz.prog lv X1 19 [] qlv qlw (fun x=>qlz x) (fun _ _ h=>qbw h)
def qv4:=qlx::qv2
def qmt:=(qhl (vC (cInt .i64)) (qhn (vC (cInt .i64))))
def qmu:Cod (V×List B) (Int×Int):=(cFstU (cPair (vAgg (qhl (vC (cInt .i64)) (qhn (vC (cInt .i64))))) qhm))
def qmx (from_:Int) (to_:Int):Option (Int×Int):=fS Tryz.prog lv X1 6 qmt qmu (from_,to_)
def qmy (from_:Int) (to_:Int):Option (Int×Int) :=
 ((qlz from_).bind fun r0 =>
 (brE ((!r0)==false)
 ((qlz to_).bind fun r1 =>
 (brE (!r1)
 ((qln 3 (-2)).bind fun r2 =>
 (some (r2.1,r2.2)))
 (brE (decide (from_>to_))
 ((qln 19 (-2)).bind fun r2 =>
 (some (r2.1,r2.2)))
 (some (0,0)))))
 ((qln 3 (-2)).bind fun r1 =>
 (some (r1.1,r1.2)))))
theorem qmw {from_ to_ r} (h:qmy from_ to_=some r):qmx from_ to_=some r :=
 qbx (es:=qv4) (hs:=[]) [] Tryz.func6 rfl (by kernel_rfl) rfl (by kernel_rfl) (by kernel_rfl) trivial trivial (by kernel_rfl) h
def qmv:=entS Tryz.prog lv X1 6 [] qmt qmu (fun x=>qmx x.1 x.2) (fun _ _ h=>qbw h)
def qv7:=qmv::qv4
def qm1:=(qhl (vC (cSl qan)) (qhn (vC (cInt .i64))))
def qmb:=sLS [0,1,5] (qhl (vC (cSl qan)) (qhl (vC (cInt .i64)) (qhn (vC (cInt .i64))))) qhm [] [] (by decide) (fun _=>rfl)
def qma:=sLS [0,1,5,9] (qhl (vC (cSl qan)) (qhl (vC (cInt .i64)) (qhl (vC (cInt .i64)) (qhn (vC cBool))))) qhm [] [] (by decide) (fun _=>rfl)
def qm9:=sLS [4] (qhn (vC cBool)) qhm [] [] (by decide) (fun _=>rfl)
def qm8:=oOr 1 qm9 (oAt 2 qma) (fun x=>(by decide:(2:Nat)≠1))
def qm5 (l:(List S47)) (at_:Int) (i:Int):Option ((Bool×Unit)⊕(((List S47)×Int×Int×Bool)×Unit)):=lS Tryz.prog lv X1 36 28 (qfp (cdF Tryz.f36) 2) qmb qm8 ((l,at_,i),())
def qmc (l:(List S47)) (at_:Int) (i:Int):Option ((Bool×Unit)⊕(((List S47)×Int×Int×Bool)×Unit)) :=
 (brE (decide (i<(List.length (EC.encL qan l):Int)))
 (gdE (decide (0≤i))<|
 (gdE ((decide ((Int.toNat i)<(List.length (EC.encL qan l))))&&(isE [(K1.int Go.IntKind.i64),(K1.int Go.IntKind.i64)] 0 (List.getD (EC.encL qan l) (Int.toNat i) [])))<|
 (brE ((decide ((qgm (List.getD (List.getD (EC.encL qan l) (Int.toNat i) []) 0 C.ne))≤at_))==true)
 (gdE (decide (0≤i))<|
 (gdE ((decide ((Int.toNat i)<(List.length (EC.encL qan l))))&&(isE [(K1.int Go.IntKind.i64),(K1.int Go.IntKind.i64)] 0 (List.getD (EC.encL qan l) (Int.toNat i) [])))<|
 (brE (decide (at_<(qgm (List.getD (List.getD (EC.encL qan l) (Int.toNat i) []) 1 C.ne))))
 (some (.inl (true,())))
 (gdE (EC.isL qan (EC.encL qan l))<|
 (qm5 (EC.decL qan (EC.encL qan l)) at_ (IntKind.wrap .i64 (i+1)))))))
 (gdE (EC.isL qan (EC.encL qan l))<|
 (qm5 (EC.decL qan (EC.encL qan l)) at_ (IntKind.wrap .i64 (i+1)))))))
 (gdE (EC.isL qan (EC.encL qan l))<|
 (some (.inr (((EC.decL qan (EC.encL qan l)),(at_,(i,false))),())))))
theorem qm7 {l at_ i r} (h:qmc l at_ i=some r):qm5 l at_ i=some r :=
 qhp (es:=qv7) (hs:=[]) [] (by kernel_rfl) trivial trivial (by kernel_rfl) h
def qm6:=qj2 Tryz.prog lv X1 2 (qfp (cdF Tryz.f36) 2) qmb qm8 (fun x=>qm5 x.1.1 x.1.2.1 x.1.2.2) (fun _ _ h=>qho h)
def qm2:Cod (V×List B) Bool:=(cFstU (cPair (vC cBool) qhm))
def qmd (l:(List S47)) (at_:Int):Option Bool:=fS Tryz.prog lv X1 36 qm1 qm2 (l,at_)
def qme (l:(List S47)) (at_:Int):Option Bool :=
 (gdE (EC.isL qan (EC.encL qan l))<|
 ((qm5 (EC.decL qan (EC.encL qan l)) at_ 0).bind fun r0 =>
 (Sum.elim (fun r1=>(some r1.1))
 (fun r1=>(some false)) r0)))
theorem qm4 {l at_ r} (h:qme l at_=some r):qmd l at_=some r :=
 qbx (es:=qv7) (hs:=[]) [qm6] Tryz.func36 rfl (by kernel_rfl) rfl (by kernel_rfl) (by kernel_rfl) ⟨⟨_,rfl,rfl⟩,trivial⟩ trivial (by kernel_rfl) h
def qm3:=entS Tryz.prog lv X1 36 [] qm1 qm2 (fun x=>qmd x.1 x.2) (fun _ _ h=>qbw h)
def qv5:=qm3::qv7
def qnc:=(qhl (vC (cSl qan)) (qhl (vC (cInt .i64)) (qhn (vC (cInt .i64)))))
def qns:=sLS [0,1,2,7,8] (qhl (vC (cSl qan)) (qhl (vC (cInt .i64)) (qhl (vC (cInt .i64)) (qhl (vRow 0) (qhn (vC (cInt .i64))))))) (qhn (qkg (bRow qak))) [false] [] (by decide) (fun _=>rfl)
def qnr:=sLS [0,1,2,7,8,19] (qhl (vC (cSl qan)) (qhl (vC (cInt .i64)) (qhl (vC (cInt .i64)) (qhl (vRow 0) (qhl (vC (cInt .i64)) (qhn (vC cBool))))))) (qhn (qkg (bRow qak))) [false] [] (by decide) (fun _=>rfl)
def qnq:=oAt 2 qnr
def qnn (l:(List S47)) (from_:Int) (to_:Int) (all:Nat) (i:Int) (b0:(List Int)):Option (((List S47)×Int×Int×Nat×Int×Bool)×(List Int)):=lS Tryz.prog lv X1 35 72 (qfp (cdF Tryz.f35) 3) qns qnq ((l,from_,to_,all,i),b0)
def qnt (l:(List S47)) (from_:Int) (to_:Int) (all:Nat) (i:Int) (b0:(List Int)):Option (((List S47)×Int×Int×Nat×Int×Bool)×(List Int)) :=
 (brE (decide (i<(List.length (EC.encL qan l):Int)))
 (gdE (decide (0≤i))<|
 (gdE ((decide ((Int.toNat i)<(List.length (EC.encL qan l))))&&(isE [(K1.int Go.IntKind.i64),(K1.int Go.IntKind.i64)] 0 (List.getD (EC.encL qan l) (Int.toNat i) [])))<|
 (gdE (decide (0≤i))<|
 (gdE ((decide ((Int.toNat i)<(List.length (EC.encL qan l))))&&(isE [(K1.int Go.IntKind.i64),(K1.int Go.IntKind.i64)] 0 (List.getD (EC.encL qan l) (Int.toNat i) [])))<|
 (gdE ((((List.all [[(C.int Go.IntKind.i64 (qgm (List.getD (List.getD (EC.encL qan l) (Int.toNat i) []) 0 C.ne)))],[(C.int Go.IntKind.i64 (qgm (List.getD (List.getD (EC.encL qan l) (Int.toNat i) []) 1 C.ne)))]] (fun (el:(List C))=>((List.length el)==1)))&&(List.all (EC.encL qak b0) (fun (el:(List C))=>((List.length el)==1))))&&(decide (((((all+(List.length [[(C.int Go.IntKind.i64 (qgm (List.getD (List.getD (EC.encL qan l) (Int.toNat i) []) 0 C.ne)))],[(C.int Go.IntKind.i64 (qgm (List.getD (List.getD (EC.encL qan l) (Int.toNat i) []) 1 C.ne)))]]))+((all+(List.length [[(C.int Go.IntKind.i64 (qgm (List.getD (List.getD (EC.encL qan l) (Int.toNat i) []) 0 C.ne)))],[(C.int Go.IntKind.i64 (qgm (List.getD (List.getD (EC.encL qan l) (Int.toNat i) []) 1 C.ne)))]])) / 4))+192)*8)≤281474976710656)))&&(decide ((all+(List.length [[(C.int Go.IntKind.i64 (qgm (List.getD (List.getD (EC.encL qan l) (Int.toNat i) []) 0 C.ne)))],[(C.int Go.IntKind.i64 (qgm (List.getD (List.getD (EC.encL qan l) (Int.toNat i) []) 1 C.ne)))]]))≤9223372036854775807)))<|
 (gdE (EC.isL qan (EC.encL qan l))<|
 (gdE (EC.isL qak ((EC.encL qak b0)++[[(C.int Go.IntKind.i64 (qgm (List.getD (List.getD (EC.encL qan l) (Int.toNat i) []) 0 C.ne)))],[(C.int Go.IntKind.i64 (qgm (List.getD (List.getD (EC.encL qan l) (Int.toNat i) []) 1 C.ne)))]]))<|
 (qnn (EC.decL qan (EC.encL qan l)) from_ to_ (all+(List.length [[(C.int Go.IntKind.i64 (qgm (List.getD (List.getD (EC.encL qan l) (Int.toNat i) []) 0 C.ne)))],[(C.int Go.IntKind.i64 (qgm (List.getD (List.getD (EC.encL qan l) (Int.toNat i) []) 1 C.ne)))]])) (IntKind.wrap .i64 (i+1)) (EC.decL qak ((EC.encL qak b0)++[[(C.int Go.IntKind.i64 (qgm (List.getD (List.getD (EC.encL qan l) (Int.toNat i) []) 0 C.ne)))],[(C.int Go.IntKind.i64 (qgm (List.getD (List.getD (EC.encL qan l) (Int.toNat i) []) 1 C.ne)))]]))))))))))
 (gdE (EC.isL qan (EC.encL qan l))<|
 (gdE (EC.isL qak (EC.encL qak b0))<|
 (some (((EC.decL qan (EC.encL qan l)),(from_,(to_,(all,(i,false))))),(EC.decL qak (EC.encL qak b0)))))))
theorem qnp {l from_ to_ all i b0 r} (h:qnt l from_ to_ all i b0=some r):qnn l from_ to_ all i b0=some r :=
 qhp (es:=qv5) (hs:=[]) [] (by kernel_rfl) trivial trivial (by kernel_rfl) h
def qno:=qj2 Tryz.prog lv X1 3 (qfp (cdF Tryz.f35) 3) qns qnq (fun x=>qnn x.1.1 x.1.2.1 x.1.2.2.1 x.1.2.2.2.1 x.1.2.2.2.2 x.2) (fun _ _ h=>qho h)
def qnl:=sLS [2,7,9,10,11,12] (qhl (vC (cInt .i64)) (qhl (vRow 0) (qhl (vRow 1) (qhl (vC (cInt .i64)) (qhl (vC (cInt .i64)) (qhn (vC (cInt .i64)))))))) (qhl (qkg (bRow qak)) (qhn (qkg (bRow qak)))) [false,false] [] (by decide) (fun _=>rfl)
def qnk:=sLS [2,7,9,10,11,12,42] (qhl (vC (cInt .i64)) (qhl (vRow 0) (qhl (vRow 1) (qhl (vC (cInt .i64)) (qhl (vC (cInt .i64)) (qhl (vC (cInt .i64)) (qhn (vC cBool)))))))) (qhl (qkg (bRow qak)) (qhn (qkg (bRow qak)))) [false,false] [] (by decide) (fun _=>rfl)
def qnj:=oAt 6 qnk
def qng (to_:Int) (all:Nat) (out:Nat) (last:Int) (next_:Int) (i:Int) (b0:(List Int)) (b1:(List Int)):Option ((Int×Nat×Nat×Int×Int×Int×Bool)×((List Int)×(List Int))):=lS Tryz.prog lv X1 35 72 (qfp (cdF Tryz.f35) 10) qnl qnj ((to_,all,out,last,next_,i),(b0,b1))
def qnm (to_:Int) (all:Nat) (out:Nat) (last:Int) (next_:Int) (i:Int) (b0:(List Int)) (b1:(List Int)):Option ((Int×Nat×Nat×Int×Int×Int×Bool)×((List Int)×(List Int))) :=
 (brE (decide (i<((all:Nat):Int)))
 (gdE ((decide (0≤i))&&(decide (i<((all:Nat):Int))))<|
 (gdE ((decide ((Int.toNat i)<(List.length (EC.encL qak b0))))&&((List.length (List.getD (EC.encL qak b0) (Int.toNat i) []))==1))<|
 (gdE (isP [(K1.int Go.IntKind.i64)] 0 (List.getD (EC.encL qak b0) (Int.toNat i) []))<|
 (brE ((decide ((qgm (List.getD (List.getD (EC.encL qak b0) (Int.toNat i) []) 0 C.ne))>last))==true)
 (gdE ((decide (0≤i))&&(decide (i<((all:Nat):Int))))<|
 (gdE ((decide ((Int.toNat i)<(List.length (EC.encL qak b0))))&&((List.length (List.getD (EC.encL qak b0) (Int.toNat i) []))==1))<|
 (gdE (isP [(K1.int Go.IntKind.i64)] 0 (List.getD (EC.encL qak b0) (Int.toNat i) []))<|
 (brE (decide ((qgm (List.getD (List.getD (EC.encL qak b0) (Int.toNat i) []) 0 C.ne))<next_))
 (gdE ((decide (0≤i))&&(decide (i<((all:Nat):Int))))<|
 (gdE ((decide ((Int.toNat i)<(List.length (EC.encL qak b0))))&&((List.length (List.getD (EC.encL qak b0) (Int.toNat i) []))==1))<|
 (gdE (isP [(K1.int Go.IntKind.i64)] 0 (List.getD (EC.encL qak b0) (Int.toNat i) []))<|
 (gdE (EC.isL qak (EC.encL qak b0))<|
 (gdE (EC.isL qak (EC.encL qak b1))<|
 (qng to_ all out last (qgm (List.getD (List.getD (EC.encL qak b0) (Int.toNat i) []) 0 C.ne)) (IntKind.wrap .i64 (i+1)) (EC.decL qak (EC.encL qak b0)) (EC.decL qak (EC.encL qak b1))))))))
 (gdE (EC.isL qak (EC.encL qak b0))<|
 (gdE (EC.isL qak (EC.encL qak b1))<|
 (qng to_ all out last next_ (IntKind.wrap .i64 (i+1)) (EC.decL qak (EC.encL qak b0)) (EC.decL qak (EC.encL qak b1)))))))))
 (gdE (EC.isL qak (EC.encL qak b0))<|
 (gdE (EC.isL qak (EC.encL qak b1))<|
 (qng to_ all out last next_ (IntKind.wrap .i64 (i+1)) (EC.decL qak (EC.encL qak b0)) (EC.decL qak (EC.encL qak b1)))))))))
 (gdE (EC.isL qak (EC.encL qak b0))<|
 (gdE (EC.isL qak (EC.encL qak b1))<|
 (some ((to_,(all,(out,(last,(next_,(i,false)))))),((EC.decL qak (EC.encL qak b0)),(EC.decL qak (EC.encL qak b1))))))))
theorem qni {to_ all out last next_ i b0 b1 r} (h:qnm to_ all out last next_ i b0 b1=some r):qng to_ all out last next_ i b0 b1=some r :=
 qhp (es:=qv5) (hs:=[]) [] (by kernel_rfl) trivial trivial (by kernel_rfl) h
def qnh:=qj2 Tryz.prog lv X1 10 (qfp (cdF Tryz.f35) 10) qnl qnj (fun x=>qng x.1.1 x.1.2.1 x.1.2.2.1 x.1.2.2.2.1 x.1.2.2.2.2.1 x.1.2.2.2.2.2 x.2.1 x.2.2) (fun _ _ h=>qho h)
def qnz:=sLS [2,7,9,10] (qhl (vC (cInt .i64)) (qhl (vRow 0) (qhl (vRow 1) (qhn (vC (cInt .i64)))))) (qhl (qkg (bRow qak)) (qhn (qkg (bRow qak)))) [false,false] [] (by decide) (fun _=>rfl)
def qny:=sLS [6] (qhn (vRow 0)) (qhn (qkg (bRow qak))) [false] [] (by decide) (fun _=>rfl)
def qnx:=oAt 1 qny
def qnu (to_:Int) (all:Nat) (out:Nat) (last:Int) (b0:(List Int)) (b1:(List Int)):Option (Nat×(List Int)):=lS Tryz.prog lv X1 35 72 (qfp (cdF Tryz.f35) 8) qnz qnx ((to_,all,out,last),(b0,b1))
def qo0 (to_:Int) (all:Nat) (out:Nat) (last:Int) (b0:(List Int)) (b1:(List Int)):Option (Nat×(List Int)) :=
 (gdE (EC.isL qak (EC.encL qak b0))<|
 (gdE (EC.isL qak (EC.encL qak b1))<|
 ((qng to_ all out last (IntKind.wrap .i64 (to_+1)) 0 (EC.decL qak (EC.encL qak b0)) (EC.decL qak (EC.encL qak b1))).bind fun r0 =>
 (brE (decide (r0.1.2.2.2.2.1>r0.1.1))
 (gdE (EC.isL qak (EC.encL qak r0.2.2))<|
 (some (r0.1.2.2.1,(EC.decL qak (EC.encL qak r0.2.2)))))
 (gdE ((((List.all [[(C.int Go.IntKind.i64 r0.1.2.2.2.2.1)]] (fun (el:(List C))=>((List.length el)==1)))&&(List.all (EC.encL qak r0.2.2) (fun (el:(List C))=>((List.length el)==1))))&&(decide (((((r0.1.2.2.1+(List.length [[(C.int Go.IntKind.i64 r0.1.2.2.2.2.1)]]))+((r0.1.2.2.1+(List.length [[(C.int Go.IntKind.i64 r0.1.2.2.2.2.1)]])) / 4))+192)*8)≤281474976710656)))&&(decide ((r0.1.2.2.1+(List.length [[(C.int Go.IntKind.i64 r0.1.2.2.2.2.1)]]))≤9223372036854775807)))<|
 (gdE (EC.isL qak (EC.encL qak r0.2.1))<|
 (gdE (EC.isL qak ((EC.encL qak r0.2.2)++[[(C.int Go.IntKind.i64 r0.1.2.2.2.2.1)]]))<|
 (qnu r0.1.1 r0.1.2.1 (r0.1.2.2.1+(List.length [[(C.int Go.IntKind.i64 r0.1.2.2.2.2.1)]])) r0.1.2.2.2.2.1 (EC.decL qak (EC.encL qak r0.2.1)) (EC.decL qak ((EC.encL qak r0.2.2)++[[(C.int Go.IntKind.i64 r0.1.2.2.2.2.1)]]))))))))))
theorem qnw {to_ all out last b0 b1 r} (h:qo0 to_ all out last b0 b1=some r):qnu to_ all out last b0 b1=some r :=
 qhp (es:=qv5) (hs:=[]) [qnh] (by kernel_rfl) ⟨⟨_,rfl,rfl⟩,trivial⟩ trivial (by kernel_rfl) h
def qnv:=qj2 Tryz.prog lv X1 8 (qfp (cdF Tryz.f35) 8) qnz qnx (fun x=>qnu x.1.1 x.1.2.1 x.1.2.2.1 x.1.2.2.2 x.2.1 x.2.2) (fun _ _ h=>qho h)
def qnd:Cod (V×List B) (Nat×(List Int)):=(cPair (vRow 0) (qhn (bRow qak)))
def qo1 (l:(List S47)) (from_:Int) (to_:Int):Option (Nat×(List Int)):=fS Tryz.prog lv X1 35 qnc qnd (l,from_,to_)
def qo2 (l:(List S47)) (from_:Int) (to_:Int):Option (Nat×(List Int)) :=
 (gdE (EC.isL qan (EC.encL qan l))<|
 ((qnn (EC.decL qan (EC.encL qan l)) from_ to_ 2 0 (EC.decL qak [[(C.int Go.IntKind.i64 from_)],[(C.int Go.IntKind.i64 to_)]])).bind fun r0 =>
 (gdE (EC.isL qak (EC.encL qak r0.2))<|
 ((qnu r0.1.2.2.1 r0.1.2.2.2.1 0 (IntKind.wrap .i64 (r0.1.2.1 - 1)) (EC.decL qak (EC.encL qak r0.2)) (EC.decL qak [])).bind fun r1 =>
 (gdE (EC.isL qak (EC.encL qak r1.2))<|
 (some (r1.1,(EC.decL qak (EC.encL qak r1.2)))))))))
theorem qnf {l from_ to_ r} (h:qo2 l from_ to_=some r):qo1 l from_ to_=some r :=
 qbx (es:=qv5) (hs:=[]) [qno,qnv] Tryz.func35 rfl (by kernel_rfl) rfl (by kernel_rfl) (by kernel_rfl) ⟨⟨_,rfl,rfl⟩,⟨_,rfl,rfl⟩,trivial⟩ trivial (by kernel_rfl) h
def qne:=entS Tryz.prog lv X1 35 [] qnc qnd (fun x=>qo1 x.1 x.2.1 x.2.2) (fun _ _ h=>qbw h)
def qv9:=qne::qv5
def qmz:=(qhl (vC (cSl qan)) (qhl (vC (cInt .i64)) (qhl (vC (cInt .i64)) (qhn (vC cBool)))))
def qn8:=sLS [0,3,9,10,11] (qhl (vC (cSl qan)) (qhl (vC cBool) (qhl (vRow 0) (qhl (vRow 1) (qhn (vC (cInt .i64))))))) (qhl (qkg (bRow qak)) (qhn (qkg (bRow qan)))) [false,false] [] (by decide) (fun _=>rfl)
def qn7:=sLS [0,3,9,10,11,20] (qhl (vC (cSl qan)) (qhl (vC cBool) (qhl (vRow 0) (qhl (vRow 1) (qhl (vC (cInt .i64)) (qhn (vC cBool))))))) (qhl (qkg (bRow qak)) (qhn (qkg (bRow qan)))) [false,false] [] (by decide) (fun _=>rfl)
def qn6:=oAt 2 qn7
def qn3 (l:(List S47)) (busy:Bool) (b:Nat) (out:Nat) (i:Int) (b0:(List Int)) (b1:(List S47)):Option (((List S47)×Bool×Nat×Nat×Int×Bool)×((List Int)×(List S47))):=lS Tryz.prog lv X1 12 73 (qfp (cdF Tryz.f12) 4) qn8 qn6 ((l,busy,b,out,i),(b0,b1))
def qn9 (l:(List S47)) (busy:Bool) (b:Nat) (out:Nat) (i:Int) (b0:(List Int)) (b1:(List S47)):Option (((List S47)×Bool×Nat×Nat×Int×Bool)×((List Int)×(List S47))) :=
 (brE (decide ((IntKind.wrap .i64 (i+1))<((b:Nat):Int)))
 (gdE ((decide (0≤i))&&(decide (i<((b:Nat):Int))))<|
 (gdE ((decide ((Int.toNat i)<(List.length (EC.encL qak b0))))&&((List.length (List.getD (EC.encL qak b0) (Int.toNat i) []))==1))<|
 (gdE (isP [(K1.int Go.IntKind.i64)] 0 (List.getD (EC.encL qak b0) (Int.toNat i) []))<|
 (gdE (EC.isL qan (EC.encL qan l))<|
 ((qmd (EC.decL qan (EC.encL qan l)) (qgm (List.getD (List.getD (EC.encL qak b0) (Int.toNat i) []) 0 C.ne))).bind fun r0 =>
 (brE (!(r0==busy))
 (gdE (EC.isL qan (EC.encL qan l))<|
 (gdE (EC.isL qak (EC.encL qak b0))<|
 (gdE (EC.isL qan (EC.encL qan b1))<|
 (qn3 (EC.decL qan (EC.encL qan l)) busy b out (IntKind.wrap .i64 (i+1)) (EC.decL qak (EC.encL qak b0)) (EC.decL qan (EC.encL qan b1))))))
 (brE ((decide (((out:Nat):Int)>0))==true)
 (gdE ((decide (0≤(IntKind.wrap .i64 (((out:Nat):Int) - 1))))&&(decide ((IntKind.wrap .i64 (((out:Nat):Int) - 1))<((out:Nat):Int))))<|
 (gdE ((decide ((Int.toNat (IntKind.wrap .i64 (((out:Nat):Int) - 1)))<(List.length (EC.encL qan b1))))&&((List.length (List.getD (EC.encL qan b1) (Int.toNat (IntKind.wrap .i64 (((out:Nat):Int) - 1))) []))==2))<|
 (gdE (isP [(K1.int Go.IntKind.i64)] 1 (List.getD (EC.encL qan b1) (Int.toNat (IntKind.wrap .i64 (((out:Nat):Int) - 1))) []))<|
 (gdE ((decide (0≤i))&&(decide (i<((b:Nat):Int))))<|
 (gdE ((decide ((Int.toNat i)<(List.length (EC.encL qak b0))))&&((List.length (List.getD (EC.encL qak b0) (Int.toNat i) []))==1))<|
 (gdE (isP [(K1.int Go.IntKind.i64)] 0 (List.getD (EC.encL qak b0) (Int.toNat i) []))<|
 (brE ((qgm (List.getD (List.getD (EC.encL qan b1) (Int.toNat (IntKind.wrap .i64 (((out:Nat):Int) - 1))) []) 1 C.ne))==(qgm (List.getD (List.getD (EC.encL qak b0) (Int.toNat i) []) 0 C.ne)))
 (gdE ((decide (0≤(IntKind.wrap .i64 (i+1))))&&(decide ((IntKind.wrap .i64 (i+1))<((b:Nat):Int))))<|
 (gdE ((decide ((Int.toNat (IntKind.wrap .i64 (i+1)))<(List.length (EC.encL qak b0))))&&((List.length (List.getD (EC.encL qak b0) (Int.toNat (IntKind.wrap .i64 (i+1))) []))==1))<|
 (gdE (isP [(K1.int Go.IntKind.i64)] 0 (List.getD (EC.encL qak b0) (Int.toNat (IntKind.wrap .i64 (i+1))) []))<|
 (gdE ((decide (0≤(IntKind.wrap .i64 (((out:Nat):Int) - 1))))&&(decide ((IntKind.wrap .i64 (((out:Nat):Int) - 1))<((out:Nat):Int))))<|
 (gdE ((decide ((Int.toNat (IntKind.wrap .i64 (((out:Nat):Int) - 1)))<(List.length (EC.encL qan b1))))&&((List.length (List.getD (EC.encL qan b1) (Int.toNat (IntKind.wrap .i64 (((out:Nat):Int) - 1))) []))==2))<|
 (gdE (EC.isL qan (EC.encL qan l))<|
 (gdE (EC.isL qak (EC.encL qak b0))<|
 (gdE (EC.isL qan (List.set (EC.encL qan b1) (Int.toNat (IntKind.wrap .i64 (((out:Nat):Int) - 1))) (splice (List.getD (EC.encL qan b1) (Int.toNat (IntKind.wrap .i64 (((out:Nat):Int) - 1))) []) 1 [(C.int Go.IntKind.i64 (qgm (List.getD (List.getD (EC.encL qak b0) (Int.toNat (IntKind.wrap .i64 (i+1))) []) 0 C.ne)))])))<|
 (qn3 (EC.decL qan (EC.encL qan l)) busy b out (IntKind.wrap .i64 (i+1)) (EC.decL qak (EC.encL qak b0)) (EC.decL qan (List.set (EC.encL qan b1) (Int.toNat (IntKind.wrap .i64 (((out:Nat):Int) - 1))) (splice (List.getD (EC.encL qan b1) (Int.toNat (IntKind.wrap .i64 (((out:Nat):Int) - 1))) []) 1 [(C.int Go.IntKind.i64 (qgm (List.getD (List.getD (EC.encL qak b0) (Int.toNat (IntKind.wrap .i64 (i+1))) []) 0 C.ne)))]))))))))))))
 (gdE ((decide (0≤i))&&(decide (i<((b:Nat):Int))))<|
 (gdE ((decide ((Int.toNat i)<(List.length (EC.encL qak b0))))&&((List.length (List.getD (EC.encL qak b0) (Int.toNat i) []))==1))<|
 (gdE (isP [(K1.int Go.IntKind.i64)] 0 (List.getD (EC.encL qak b0) (Int.toNat i) []))<|
 (gdE ((decide (0≤(IntKind.wrap .i64 (i+1))))&&(decide ((IntKind.wrap .i64 (i+1))<((b:Nat):Int))))<|
 (gdE ((decide ((Int.toNat (IntKind.wrap .i64 (i+1)))<(List.length (EC.encL qak b0))))&&((List.length (List.getD (EC.encL qak b0) (Int.toNat (IntKind.wrap .i64 (i+1))) []))==1))<|
 (gdE (isP [(K1.int Go.IntKind.i64)] 0 (List.getD (EC.encL qak b0) (Int.toNat (IntKind.wrap .i64 (i+1))) []))<|
 (gdE ((((List.all [[(C.int Go.IntKind.i64 (qgm (List.getD (List.getD (EC.encL qak b0) (Int.toNat i) []) 0 C.ne))),(C.int Go.IntKind.i64 (qgm (List.getD (List.getD (EC.encL qak b0) (Int.toNat (IntKind.wrap .i64 (i+1))) []) 0 C.ne)))]] (fun (el:(List C))=>((List.length el)==2)))&&(List.all (EC.encL qan b1) (fun (el:(List C))=>((List.length el)==2))))&&(decide (((((out+(List.length [[(C.int Go.IntKind.i64 (qgm (List.getD (List.getD (EC.encL qak b0) (Int.toNat i) []) 0 C.ne))),(C.int Go.IntKind.i64 (qgm (List.getD (List.getD (EC.encL qak b0) (Int.toNat (IntKind.wrap .i64 (i+1))) []) 0 C.ne)))]]))+((out+(List.length [[(C.int Go.IntKind.i64 (qgm (List.getD (List.getD (EC.encL qak b0) (Int.toNat i) []) 0 C.ne))),(C.int Go.IntKind.i64 (qgm (List.getD (List.getD (EC.encL qak b0) (Int.toNat (IntKind.wrap .i64 (i+1))) []) 0 C.ne)))]])) / 4))+192)*16)≤281474976710656)))&&(decide ((out+(List.length [[(C.int Go.IntKind.i64 (qgm (List.getD (List.getD (EC.encL qak b0) (Int.toNat i) []) 0 C.ne))),(C.int Go.IntKind.i64 (qgm (List.getD (List.getD (EC.encL qak b0) (Int.toNat (IntKind.wrap .i64 (i+1))) []) 0 C.ne)))]]))≤9223372036854775807)))<|
 (gdE (EC.isL qan (EC.encL qan l))<|
 (gdE (EC.isL qak (EC.encL qak b0))<|
 (gdE (EC.isL qan ((EC.encL qan b1)++[[(C.int Go.IntKind.i64 (qgm (List.getD (List.getD (EC.encL qak b0) (Int.toNat i) []) 0 C.ne))),(C.int Go.IntKind.i64 (qgm (List.getD (List.getD (EC.encL qak b0) (Int.toNat (IntKind.wrap .i64 (i+1))) []) 0 C.ne)))]]))<|
 (qn3 (EC.decL qan (EC.encL qan l)) busy b (out+(List.length [[(C.int Go.IntKind.i64 (qgm (List.getD (List.getD (EC.encL qak b0) (Int.toNat i) []) 0 C.ne))),(C.int Go.IntKind.i64 (qgm (List.getD (List.getD (EC.encL qak b0) (Int.toNat (IntKind.wrap .i64 (i+1))) []) 0 C.ne)))]])) (IntKind.wrap .i64 (i+1)) (EC.decL qak (EC.encL qak b0)) (EC.decL qan ((EC.encL qan b1)++[[(C.int Go.IntKind.i64 (qgm (List.getD (List.getD (EC.encL qak b0) (Int.toNat i) []) 0 C.ne))),(C.int Go.IntKind.i64 (qgm (List.getD (List.getD (EC.encL qak b0) (Int.toNat (IntKind.wrap .i64 (i+1))) []) 0 C.ne)))]]))))))))))))))))))))
 (gdE ((decide (0≤i))&&(decide (i<((b:Nat):Int))))<|
 (gdE ((decide ((Int.toNat i)<(List.length (EC.encL qak b0))))&&((List.length (List.getD (EC.encL qak b0) (Int.toNat i) []))==1))<|
 (gdE (isP [(K1.int Go.IntKind.i64)] 0 (List.getD (EC.encL qak b0) (Int.toNat i) []))<|
 (gdE ((decide (0≤(IntKind.wrap .i64 (i+1))))&&(decide ((IntKind.wrap .i64 (i+1))<((b:Nat):Int))))<|
 (gdE ((decide ((Int.toNat (IntKind.wrap .i64 (i+1)))<(List.length (EC.encL qak b0))))&&((List.length (List.getD (EC.encL qak b0) (Int.toNat (IntKind.wrap .i64 (i+1))) []))==1))<|
 (gdE (isP [(K1.int Go.IntKind.i64)] 0 (List.getD (EC.encL qak b0) (Int.toNat (IntKind.wrap .i64 (i+1))) []))<|
 (gdE ((((List.all [[(C.int Go.IntKind.i64 (qgm (List.getD (List.getD (EC.encL qak b0) (Int.toNat i) []) 0 C.ne))),(C.int Go.IntKind.i64 (qgm (List.getD (List.getD (EC.encL qak b0) (Int.toNat (IntKind.wrap .i64 (i+1))) []) 0 C.ne)))]] (fun (el:(List C))=>((List.length el)==2)))&&(List.all (EC.encL qan b1) (fun (el:(List C))=>((List.length el)==2))))&&(decide (((((out+(List.length [[(C.int Go.IntKind.i64 (qgm (List.getD (List.getD (EC.encL qak b0) (Int.toNat i) []) 0 C.ne))),(C.int Go.IntKind.i64 (qgm (List.getD (List.getD (EC.encL qak b0) (Int.toNat (IntKind.wrap .i64 (i+1))) []) 0 C.ne)))]]))+((out+(List.length [[(C.int Go.IntKind.i64 (qgm (List.getD (List.getD (EC.encL qak b0) (Int.toNat i) []) 0 C.ne))),(C.int Go.IntKind.i64 (qgm (List.getD (List.getD (EC.encL qak b0) (Int.toNat (IntKind.wrap .i64 (i+1))) []) 0 C.ne)))]])) / 4))+192)*16)≤281474976710656)))&&(decide ((out+(List.length [[(C.int Go.IntKind.i64 (qgm (List.getD (List.getD (EC.encL qak b0) (Int.toNat i) []) 0 C.ne))),(C.int Go.IntKind.i64 (qgm (List.getD (List.getD (EC.encL qak b0) (Int.toNat (IntKind.wrap .i64 (i+1))) []) 0 C.ne)))]]))≤9223372036854775807)))<|
 (gdE (EC.isL qan (EC.encL qan l))<|
 (gdE (EC.isL qak (EC.encL qak b0))<|
 (gdE (EC.isL qan ((EC.encL qan b1)++[[(C.int Go.IntKind.i64 (qgm (List.getD (List.getD (EC.encL qak b0) (Int.toNat i) []) 0 C.ne))),(C.int Go.IntKind.i64 (qgm (List.getD (List.getD (EC.encL qak b0) (Int.toNat (IntKind.wrap .i64 (i+1))) []) 0 C.ne)))]]))<|
 (qn3 (EC.decL qan (EC.encL qan l)) busy b (out+(List.length [[(C.int Go.IntKind.i64 (qgm (List.getD (List.getD (EC.encL qak b0) (Int.toNat i) []) 0 C.ne))),(C.int Go.IntKind.i64 (qgm (List.getD (List.getD (EC.encL qak b0) (Int.toNat (IntKind.wrap .i64 (i+1))) []) 0 C.ne)))]])) (IntKind.wrap .i64 (i+1)) (EC.decL qak (EC.encL qak b0)) (EC.decL qan ((EC.encL qan b1)++[[(C.int Go.IntKind.i64 (qgm (List.getD (List.getD (EC.encL qak b0) (Int.toNat i) []) 0 C.ne))),(C.int Go.IntKind.i64 (qgm (List.getD (List.getD (EC.encL qak b0) (Int.toNat (IntKind.wrap .i64 (i+1))) []) 0 C.ne)))]]))))))))))))))))))))
 (gdE (EC.isL qan (EC.encL qan l))<|
 (gdE (EC.isL qak (EC.encL qak b0))<|
 (gdE (EC.isL qan (EC.encL qan b1))<|
 (some (((EC.decL qan (EC.encL qan l)),(busy,(b,(out,(i,false))))),((EC.decL qak (EC.encL qak b0)),(EC.decL qan (EC.encL qan b1)))))))))
theorem qn5 {l busy b out i b0 b1 r} (h:qn9 l busy b out i b0 b1=some r):qn3 l busy b out i b0 b1=some r :=
 qhp (es:=qv9) (hs:=[]) [] (by kernel_rfl) trivial trivial (by kernel_rfl) h
def qn4:=qj2 Tryz.prog lv X1 4 (qfp (cdF Tryz.f12) 4) qn8 qn6 (fun x=>qn3 x.1.1 x.1.2.1 x.1.2.2.1 x.1.2.2.2.1 x.1.2.2.2.2 x.2.1 x.2.2) (fun _ _ h=>qho h)
def qn0:Cod (V×List B) (Nat×(List S47)):=(cPair (vRow 0) (qhn (bRow qan)))
def qna (l:(List S47)) (from_:Int) (to_:Int) (busy:Bool):Option (Nat×(List S47)):=fS Tryz.prog lv X1 12 qmz qn0 (l,from_,to_,busy)
def qnb (l:(List S47)) (from_:Int) (to_:Int) (busy:Bool):Option (Nat×(List S47)) :=
 (gdE (EC.isL qan (EC.encL qan l))<|
 ((qo1 (EC.decL qan (EC.encL qan l)) from_ to_).bind fun r0 =>
 (gdE (EC.isL qan (EC.encL qan l))<|
 (gdE (EC.isL qak (EC.encL qak r0.2))<|
 ((qn3 (EC.decL qan (EC.encL qan l)) busy r0.1 0 0 (EC.decL qak (EC.encL qak r0.2)) (EC.decL qan [])).bind fun r1 =>
 (gdE (EC.isL qan (EC.encL qan r1.2.2))<|
 (some (r1.1.2.2.2.1,(EC.decL qan (EC.encL qan r1.2.2))))))))))
theorem qn2 {l from_ to_ busy r} (h:qnb l from_ to_ busy=some r):qna l from_ to_ busy=some r :=
 qbx (es:=qv9) (hs:=[]) [qn4] Tryz.func12 rfl (by kernel_rfl) rfl (by kernel_rfl) (by kernel_rfl) ⟨⟨_,rfl,rfl⟩,trivial⟩ trivial (by kernel_rfl) h
def qn1:=entS Tryz.prog lv X1 12 [] qmz qn0 (fun x=>qna x.1 x.2.1 x.2.2.1 x.2.2.2) (fun _ _ h=>qbw h)
def qv8:=qn1::qv9
def qmf:=(qhl (vC (cSl qan)) (qhn (vC (cSl qan))))
def qmp:=sLS [0,1,5] (qhl (vC (cSl qan)) (qhl (vC (cSl qan)) (qhn (vC (cInt .i64))))) qhm [] [] (by decide) (fun _=>rfl)
def qmo:=sLS [0,1,5,14] (qhl (vC (cSl qan)) (qhl (vC (cSl qan)) (qhl (vC (cInt .i64)) (qhn (vC cBool))))) qhm [] [] (by decide) (fun _=>rfl)
def qmn:=sLS [4] (qhn (vC cBool)) qhm [] [] (by decide) (fun _=>rfl)
def qmm:=oOr 1 qmn (oAt 2 qmo) (fun x=>(by decide:(2:Nat)≠1))
def qmj (a:(List S47)) (b:(List S47)) (i:Int):Option ((Bool×Unit)⊕(((List S47)×(List S47)×Int×Bool)×Unit)):=lS Tryz.prog lv X1 11 26 (qfp (cdF Tryz.f11) 4) qmp qmm ((a,b,i),())
def qmq (a:(List S47)) (b:(List S47)) (i:Int):Option ((Bool×Unit)⊕(((List S47)×(List S47)×Int×Bool)×Unit)) :=
 (brE (decide (i<(List.length (EC.encL qan a):Int)))
 (gdE (decide (0≤i))<|
 (gdE ((decide ((Int.toNat i)<(List.length (EC.encL qan a))))&&(isE [(K1.int Go.IntKind.i64),(K1.int Go.IntKind.i64)] 0 (List.getD (EC.encL qan a) (Int.toNat i) [])))<|
 (gdE (decide (0≤i))<|
 (gdE ((decide ((Int.toNat i)<(List.length (EC.encL qan b))))&&(isE [(K1.int Go.IntKind.i64),(K1.int Go.IntKind.i64)] 0 (List.getD (EC.encL qan b) (Int.toNat i) [])))<|
 (brE (!(((qgm (List.getD (List.getD (EC.encL qan a) (Int.toNat i) []) 0 C.ne))==(qgm (List.getD (List.getD (EC.encL qan b) (Int.toNat i) []) 0 C.ne)))&&(((qgm (List.getD (List.getD (EC.encL qan a) (Int.toNat i) []) 1 C.ne))==(qgm (List.getD (List.getD (EC.encL qan b) (Int.toNat i) []) 1 C.ne)))&&true)))
 (some (.inl (false,())))
 (gdE (EC.isL qan (EC.encL qan a))<|
 (gdE (EC.isL qan (EC.encL qan b))<|
 (qmj (EC.decL qan (EC.encL qan a)) (EC.decL qan (EC.encL qan b)) (IntKind.wrap .i64 (i+1))))))))))
 (gdE (EC.isL qan (EC.encL qan a))<|
 (gdE (EC.isL qan (EC.encL qan b))<|
 (some (.inr (((EC.decL qan (EC.encL qan a)),((EC.decL qan (EC.encL qan b)),(i,false))),()))))))
theorem qml {a b i r} (h:qmq a b i=some r):qmj a b i=some r :=
 qhp (es:=qv8) (hs:=[]) [] (by kernel_rfl) trivial trivial (by kernel_rfl) h
def qmk:=qj2 Tryz.prog lv X1 4 (qfp (cdF Tryz.f11) 4) qmp qmm (fun x=>qmj x.1.1 x.1.2.1 x.1.2.2) (fun _ _ h=>qho h)
def qmg:Cod (V×List B) Bool:=(cFstU (cPair (vC cBool) qhm))
def qmr (a:(List S47)) (b:(List S47)):Option Bool:=fS Tryz.prog lv X1 11 qmf qmg (a,b)
def qms (a:(List S47)) (b:(List S47)):Option Bool :=
 (brE ((List.length (EC.encL qan a):Int) != (List.length (EC.encL qan b):Int))
 (some false)
 (gdE (EC.isL qan (EC.encL qan a))<|
 (gdE (EC.isL qan (EC.encL qan b))<|
 ((qmj (EC.decL qan (EC.encL qan a)) (EC.decL qan (EC.encL qan b)) 0).bind fun r0 =>
 (Sum.elim (fun r1=>(some r1.1))
 (fun r1=>(some true)) r0)))))
theorem qmi {a b r} (h:qms a b=some r):qmr a b=some r :=
 qbx (es:=qv8) (hs:=[]) [qmk] Tryz.func11 rfl (by kernel_rfl) rfl (by kernel_rfl) (by kernel_rfl) ⟨⟨_,rfl,rfl⟩,trivial⟩ trivial (by kernel_rfl) h
def qmh:=entS Tryz.prog lv X1 11 [] qmf qmg (fun x=>qmr x.1 x.2) (fun _ _ h=>qbw h)
def qv6:=qmh::qv8
def qld:Cod (List V) Unit:=qhm
def qle:Cod (V×List B) Bool:=(cFstU (cPair (vC cBool) qhm))
def qlh :Option Bool:=fS Tryz.prog lv X1 10 qld qle ()
def qli :Option Bool :=
 ((qf0 (EC.decL qan [[(C.int Go.IntKind.i64 5),(C.int Go.IntKind.i64 9)],[(C.int Go.IntKind.i64 1),(C.int Go.IntKind.i64 5)],[(C.int Go.IntKind.i64 20),(C.int Go.IntKind.i64 20)]])).bind fun r0 =>
 (gdE (EC.isL qan (EC.encL qan r0.2))<|
 ((qeh (EC.decL qan (EC.encL qan r0.2)) 0 20 5).bind fun r1 =>
 (brE ((r0.1.2.1==0)==true)
 (brE ((r1.1.2.1==0)==true)
 (gdE (EC.isL qan (EC.encL qan r0.2))<|
 ((qmr (EC.decL qan (EC.encL qan r0.2)) (EC.decL qan [[(C.int Go.IntKind.i64 1),(C.int Go.IntKind.i64 9)]])).bind fun r2 =>
 (brE (r2==true)
 (gdE (EC.isL qan (EC.encL qan r1.2))<|
 ((qmr (EC.decL qan (EC.encL qan r1.2)) (EC.decL qan [[(C.int Go.IntKind.i64 9),(C.int Go.IntKind.i64 20)]])).bind fun r3 =>
 (some r3)))
 (some false))))
 (some false))
 (some false)))))
theorem qlg {r} (h:qli =some r):qlh =some r :=
 qbx (es:=qv6) (hs:=[]) [] Tryz.func10 rfl (by kernel_rfl) rfl (by kernel_rfl) (by kernel_rfl) trivial trivial (by kernel_rfl) h
def qlf:=entS Tryz.prog lv X1 10 [] qld qle (fun x=>qlh ) (fun _ _ h=>qbw h)
def qv1:=qlf::qv6
structure S152 where
 Address:ByteArray
 State:Int
def qaj:EC S152 where
 enc x:=[.str x.Address,.int .i64 x.State]
 dec c:=⟨qtz (c.getD 0 .ne),qgm (c.getD 1 .ne)⟩
 is c:=isE [.str,.int .i64] 0 c
 enc_dec h:=q9c h
 dec_enc x:=by rfl
 is_enc x:=by simp [isE,isK]
theorem qar (x:S152):qaj.enc x=[.str x.Address,.int .i64 x.State]:=rfl
theorem qgu (xs:List S152) (n:Nat):isE [.str,.int .i64] 0 ((qaj.encL xs).getD n [])=decide (n<xs.length):=by
 by_cases h:n<xs.length
 ·simp only [EC.getD_lt _ _ h];simp [qar,isE,isK,h]
 ·simp only [EC.getD_ge _ _ (Nat.not_lt.1 h)];simp [isE,isK,h]
theorem q25 (xs:List S152) (n:Nat):qtz (((qaj.encL xs).getD n []).getD 0 .ne)=(xs.getD n (qaj.dec [])).Address:=by
 by_cases h:n<xs.length
 ·simp only [EC.getD_lt _ _ h];simp [qar,h,qtz,List.getD_eq_getElem?_getD]
 ·simp only [EC.getD_ge _ _ (Nat.not_lt.1 h)];simp [Nat.not_lt.1 h,qaj,qtz,qgm,List.getD_eq_getElem?_getD]
theorem q26 (xs:List S152) (n:Nat):qgm (((qaj.encL xs).getD n []).getD 1 .ne)=(xs.getD n (qaj.dec [])).State:=by
 by_cases h:n<xs.length
 ·simp only [EC.getD_lt _ _ h];simp [qar,h,qgm,List.getD_eq_getElem?_getD]
 ·simp only [EC.getD_ge _ _ (Nat.not_lt.1 h)];simp [Nat.not_lt.1 h,qaj,qtz,qgm,List.getD_eq_getElem?_getD]
theorem qj6 (a0:ByteArray) (a1:Int):([.str a0,.int .i64 a1]:List C)=qaj.enc (⟨a0,a1⟩:S152):=rfl
theorem q1w (xs:List S152) (a0:ByteArray) (a1:Int):qaj.encL xs++[[.str a0,.int .i64 a1]]=qaj.encL (xs++[(⟨a0,a1⟩:S152)]):=by rw [qj6];simp [EC.encL]
theorem q1k (xs:List S152):(qaj.encL xs).all (fun (el:List C)=>el.length==2)=true:=by induction xs with|nil=>rfl|cons x xs ih=>first|(simp [EC.encL,qar];done)|simpa [EC.encL,qar] using ih
theorem qqr (xs:List S152) (n:Nat) (a0:ByteArray) (a1:Int):(qaj.encL xs).set n (splice ((qaj.encL xs).getD n []) 0 [.str a0,.int .i64 a1])=qaj.encL (xs.set n ({ xs.getD n (qaj.dec []) with Address:=a0,State:=a1 })):=by
 by_cases h:n<xs.length
 ·rw [EC.getD_lt _ _ h];simp [EC.encL,List.map_set,qar,splice]
 ·simp [EC.encL,List.set_eq_of_length_le,Nat.not_lt.1 h]
theorem qqq (xs:List S152) (n:Nat) (a0:ByteArray):(qaj.encL xs).set n (splice ((qaj.encL xs).getD n []) 0 [.str a0])=qaj.encL (xs.set n ({ xs.getD n (qaj.dec []) with Address:=a0 })):=by
 by_cases h:n<xs.length
 ·rw [EC.getD_lt _ _ h];simp [EC.encL,List.map_set,qar,splice,List.getD_eq_getElem?_getD,h]
 ·simp [EC.encL,List.set_eq_of_length_le,Nat.not_lt.1 h]
theorem qqs (xs:List S152) (n:Nat) (a1:Int):(qaj.encL xs).set n (splice ((qaj.encL xs).getD n []) 1 [.int .i64 a1])=qaj.encL (xs.set n ({ xs.getD n (qaj.dec []) with State:=a1 })):=by
 by_cases h:n<xs.length
 ·rw [EC.getD_lt _ _ h];simp [EC.encL,List.map_set,qar,splice,List.getD_eq_getElem?_getD,h]
 ·simp [EC.encL,List.set_eq_of_length_le,Nat.not_lt.1 h]
def evz_ca:=(qhl (vAgg (qhl (vC cStr) (qhl (vC (cInt .i64)) (qhl (vC (cInt .i64)) (qhl (vC (cInt .i64)) (qhl (vC (cInt .i64)) (qhl (vC (cInt .i64)) (qhl (vC (cInt .i64)) (qhl (vC (cInt .i64)) (qhl (vC (cInt .i64)) (qhl (vC (cInt .i64)) (qhn (vC (cInt .i64)))))))))))))) (qhn (vEptr (qhl cStr (qhl (cInt .i64) (qhl (cInt .i64) (qhl cStr (qhl cStr (qhl cStr (qhl (cSl qaj) (qhl cStr (qhl (cInt .i64) (qhl (cInt .i64) (qhl (cInt .i64) (qhl (cInt .i64) (qhl (cInt .i64) (qhl (cInt .i64) (qhl (cInt .i64) (qhl (cInt .i64) (qhl (cInt .i64) (qhl (cInt .i64) (qhl (cInt .i64) (qhl (cInt .i64) (qhl cBool (qhl (cSl qak) (qhl (cSl qak) (qhn (cSl qak))))))))))))))))))))))))) 0)))
def evz_cr:Cod (V×List B) Bool:=(cFstU (cPair (vC cBool) qhm))
def evz_s (z_Name:ByteArray) (z_Standard:Int) (z_Summer:Int) (z_Begin_Month:Int) (z_Begin_Week:Int) (z_Begin_Weekday:Int) (z_Begin_Minute:Int) (z_End_Month:Int) (z_End_Week:Int) (z_End_Weekday:Int) (z_End_Minute:Int) (c1_0:ByteArray) (c1_1:Int) (c1_2:Int) (c1_3:ByteArray) (c1_4:ByteArray) (c1_5:ByteArray) (c1_6:(List S152)) (c1_7:ByteArray) (c1_8:Int) (c1_9:Int) (c1_10:Int) (c1_11:Int) (c1_12:Int) (c1_13:Int) (c1_14:Int) (c1_15:Int) (c1_16:Int) (c1_17:Int) (c1_18:Int) (c1_19:Int) (c1_20:Bool) (c1_21:(List Int)) (c1_22:(List Int)) (c1_23:(List Int)):Option Bool:=fS Tryz.prog lv X1 38 evz_ca evz_cr ((z_Name,z_Standard,z_Summer,z_Begin_Month,z_Begin_Week,z_Begin_Weekday,z_Begin_Minute,z_End_Month,z_End_Week,z_End_Weekday,z_End_Minute),(c1_0,c1_1,c1_2,c1_3,c1_4,c1_5,c1_6,c1_7,c1_8,c1_9,c1_10,c1_11,c1_12,c1_13,c1_14,c1_15,c1_16,c1_17,c1_18,c1_19,c1_20,c1_21,c1_22,c1_23))
def evz_t (z_Name:ByteArray) (z_Standard:Int) (z_Summer:Int) (z_Begin_Month:Int) (z_Begin_Week:Int) (z_Begin_Weekday:Int) (z_Begin_Minute:Int) (z_End_Month:Int) (z_End_Week:Int) (z_End_Weekday:Int) (z_End_Minute:Int) (c1_0:ByteArray) (c1_1:Int) (c1_2:Int) (c1_3:ByteArray) (c1_4:ByteArray) (c1_5:ByteArray) (c1_6:(List S152)) (c1_7:ByteArray) (c1_8:Int) (c1_9:Int) (c1_10:Int) (c1_11:Int) (c1_12:Int) (c1_13:Int) (c1_14:Int) (c1_15:Int) (c1_16:Int) (c1_17:Int) (c1_18:Int) (c1_19:Int) (c1_20:Bool) (c1_21:(List Int)) (c1_22:(List Int)) (c1_23:(List Int)):Option Bool :=
 (some (z_Name.toList==c1_7.toList))
theorem evz_eq {z_Name z_Standard z_Summer z_Begin_Month z_Begin_Week z_Begin_Weekday z_Begin_Minute z_End_Month z_End_Week z_End_Weekday z_End_Minute c1_0 c1_1 c1_2 c1_3 c1_4 c1_5 c1_6 c1_7 c1_8 c1_9 c1_10 c1_11 c1_12 c1_13 c1_14 c1_15 c1_16 c1_17 c1_18 c1_19 c1_20 c1_21 c1_22 c1_23 r} (h:evz_t z_Name z_Standard z_Summer z_Begin_Month z_Begin_Week z_Begin_Weekday z_Begin_Minute z_End_Month z_End_Week z_End_Weekday z_End_Minute c1_0 c1_1 c1_2 c1_3 c1_4 c1_5 c1_6 c1_7 c1_8 c1_9 c1_10 c1_11 c1_12 c1_13 c1_14 c1_15 c1_16 c1_17 c1_18 c1_19 c1_20 c1_21 c1_22 c1_23=some r):evz_s z_Name z_Standard z_Summer z_Begin_Month z_Begin_Week z_Begin_Weekday z_Begin_Minute z_End_Month z_End_Week z_End_Weekday z_End_Minute c1_0 c1_1 c1_2 c1_3 c1_4 c1_5 c1_6 c1_7 c1_8 c1_9 c1_10 c1_11 c1_12 c1_13 c1_14 c1_15 c1_16 c1_17 c1_18 c1_19 c1_20 c1_21 c1_22 c1_23=some r :=
 qbx (es:=qv1) (hs:=[]) [] Tryz.func38 rfl (by kernel_rfl) rfl (by kernel_rfl) (by kernel_rfl) trivial trivial (by kernel_rfl) h
def evz_e:=entS Tryz.prog lv X1 38 [] evz_ca evz_cr (fun x=>evz_s x.1.1 x.1.2.1 x.1.2.2.1 x.1.2.2.2.1 x.1.2.2.2.2.1 x.1.2.2.2.2.2.1 x.1.2.2.2.2.2.2.1 x.1.2.2.2.2.2.2.2.1 x.1.2.2.2.2.2.2.2.2.1 x.1.2.2.2.2.2.2.2.2.2.1 x.1.2.2.2.2.2.2.2.2.2.2 x.2.1 x.2.2.1 x.2.2.2.1 x.2.2.2.2.1 x.2.2.2.2.2.1 x.2.2.2.2.2.2.1 x.2.2.2.2.2.2.2.1 x.2.2.2.2.2.2.2.2.1 x.2.2.2.2.2.2.2.2.2.1 x.2.2.2.2.2.2.2.2.2.2.1 x.2.2.2.2.2.2.2.2.2.2.2.1 x.2.2.2.2.2.2.2.2.2.2.2.2.1 x.2.2.2.2.2.2.2.2.2.2.2.2.2.1 x.2.2.2.2.2.2.2.2.2.2.2.2.2.2.1 x.2.2.2.2.2.2.2.2.2.2.2.2.2.2.2.1 x.2.2.2.2.2.2.2.2.2.2.2.2.2.2.2.2.1 x.2.2.2.2.2.2.2.2.2.2.2.2.2.2.2.2.2.1 x.2.2.2.2.2.2.2.2.2.2.2.2.2.2.2.2.2.2.1 x.2.2.2.2.2.2.2.2.2.2.2.2.2.2.2.2.2.2.2.1 x.2.2.2.2.2.2.2.2.2.2.2.2.2.2.2.2.2.2.2.2.1 x.2.2.2.2.2.2.2.2.2.2.2.2.2.2.2.2.2.2.2.2.2.1 x.2.2.2.2.2.2.2.2.2.2.2.2.2.2.2.2.2.2.2.2.2.2.1 x.2.2.2.2.2.2.2.2.2.2.2.2.2.2.2.2.2.2.2.2.2.2.2.1 x.2.2.2.2.2.2.2.2.2.2.2.2.2.2.2.2.2.2.2.2.2.2.2.2) (fun _ _ h=>qbw h)
def qus:=evz_e::qv1
structure S34 where
 Name:ByteArray
 Standard:Int
 Summer:Int
 Begin_Month:Int
 Begin_Week:Int
 Begin_Weekday:Int
 Begin_Minute:Int
 End_Month:Int
 End_Week:Int
 End_Weekday:Int
 End_Minute:Int
def qal:EC S34 where
 enc x:=[.str x.Name,.int .i64 x.Standard,.int .i64 x.Summer,.int .i64 x.Begin_Month,.int .i64 x.Begin_Week,.int .i64 x.Begin_Weekday,.int .i64 x.Begin_Minute,.int .i64 x.End_Month,.int .i64 x.End_Week,.int .i64 x.End_Weekday,.int .i64 x.End_Minute]
 dec c:=⟨qtz (c.getD 0 .ne),qgm (c.getD 1 .ne),qgm (c.getD 2 .ne),qgm (c.getD 3 .ne),qgm (c.getD 4 .ne),qgm (c.getD 5 .ne),qgm (c.getD 6 .ne),qgm (c.getD 7 .ne),qgm (c.getD 8 .ne),qgm (c.getD 9 .ne),qgm (c.getD 10 .ne)⟩
 is c:=isE [.str,.int .i64,.int .i64,.int .i64,.int .i64,.int .i64,.int .i64,.int .i64,.int .i64,.int .i64,.int .i64] 0 c
 enc_dec h:=q9c h
 dec_enc x:=by rfl
 is_enc x:=by simp [isE,isK]
theorem qas (x:S34):qal.enc x=[.str x.Name,.int .i64 x.Standard,.int .i64 x.Summer,.int .i64 x.Begin_Month,.int .i64 x.Begin_Week,.int .i64 x.Begin_Weekday,.int .i64 x.Begin_Minute,.int .i64 x.End_Month,.int .i64 x.End_Week,.int .i64 x.End_Weekday,.int .i64 x.End_Minute]:=rfl
theorem qgw (xs:List S34) (n:Nat):isE [.str,.int .i64,.int .i64,.int .i64,.int .i64,.int .i64,.int .i64,.int .i64,.int .i64,.int .i64,.int .i64] 0 ((qal.encL xs).getD n [])=decide (n<xs.length):=by
 by_cases h:n<xs.length
 ·simp only [EC.getD_lt _ _ h];simp [qas,isE,isK,h]
 ·simp only [EC.getD_ge _ _ (Nat.not_lt.1 h)];simp [isE,isK,h]
theorem q27 (xs:List S34) (n:Nat):qtz (((qal.encL xs).getD n []).getD 0 .ne)=(xs.getD n (qal.dec [])).Name:=by
 by_cases h:n<xs.length
 ·simp only [EC.getD_lt _ _ h];simp [qas,h,qtz,List.getD_eq_getElem?_getD]
 ·simp only [EC.getD_ge _ _ (Nat.not_lt.1 h)];simp [Nat.not_lt.1 h,qal,qtz,qgm,List.getD_eq_getElem?_getD]
theorem q28 (xs:List S34) (n:Nat):qgm (((qal.encL xs).getD n []).getD 1 .ne)=(xs.getD n (qal.dec [])).Standard:=by
 by_cases h:n<xs.length
 ·simp only [EC.getD_lt _ _ h];simp [qas,h,qgm,List.getD_eq_getElem?_getD]
 ·simp only [EC.getD_ge _ _ (Nat.not_lt.1 h)];simp [Nat.not_lt.1 h,qal,qtz,qgm,List.getD_eq_getElem?_getD]
theorem q2a (xs:List S34) (n:Nat):qgm (((qal.encL xs).getD n []).getD 2 .ne)=(xs.getD n (qal.dec [])).Summer:=by
 by_cases h:n<xs.length
 ·simp only [EC.getD_lt _ _ h];simp [qas,h,qgm,List.getD_eq_getElem?_getD]
 ·simp only [EC.getD_ge _ _ (Nat.not_lt.1 h)];simp [Nat.not_lt.1 h,qal,qtz,qgm,List.getD_eq_getElem?_getD]
theorem q2b (xs:List S34) (n:Nat):qgm (((qal.encL xs).getD n []).getD 3 .ne)=(xs.getD n (qal.dec [])).Begin_Month:=by
 by_cases h:n<xs.length
 ·simp only [EC.getD_lt _ _ h];simp [qas,h,qgm,List.getD_eq_getElem?_getD]
 ·simp only [EC.getD_ge _ _ (Nat.not_lt.1 h)];simp [Nat.not_lt.1 h,qal,qtz,qgm,List.getD_eq_getElem?_getD]
theorem q2c (xs:List S34) (n:Nat):qgm (((qal.encL xs).getD n []).getD 4 .ne)=(xs.getD n (qal.dec [])).Begin_Week:=by
 by_cases h:n<xs.length
 ·simp only [EC.getD_lt _ _ h];simp [qas,h,qgm,List.getD_eq_getElem?_getD]
 ·simp only [EC.getD_ge _ _ (Nat.not_lt.1 h)];simp [Nat.not_lt.1 h,qal,qtz,qgm,List.getD_eq_getElem?_getD]
theorem q2d (xs:List S34) (n:Nat):qgm (((qal.encL xs).getD n []).getD 5 .ne)=(xs.getD n (qal.dec [])).Begin_Weekday:=by
 by_cases h:n<xs.length
 ·simp only [EC.getD_lt _ _ h];simp [qas,h,qgm,List.getD_eq_getElem?_getD]
 ·simp only [EC.getD_ge _ _ (Nat.not_lt.1 h)];simp [Nat.not_lt.1 h,qal,qtz,qgm,List.getD_eq_getElem?_getD]
theorem q2e (xs:List S34) (n:Nat):qgm (((qal.encL xs).getD n []).getD 6 .ne)=(xs.getD n (qal.dec [])).Begin_Minute:=by
 by_cases h:n<xs.length
 ·simp only [EC.getD_lt _ _ h];simp [qas,h,qgm,List.getD_eq_getElem?_getD]
 ·simp only [EC.getD_ge _ _ (Nat.not_lt.1 h)];simp [Nat.not_lt.1 h,qal,qtz,qgm,List.getD_eq_getElem?_getD]
theorem q2f (xs:List S34) (n:Nat):qgm (((qal.encL xs).getD n []).getD 7 .ne)=(xs.getD n (qal.dec [])).End_Month:=by
 by_cases h:n<xs.length
 ·simp only [EC.getD_lt _ _ h];simp [qas,h,qgm,List.getD_eq_getElem?_getD]
 ·simp only [EC.getD_ge _ _ (Nat.not_lt.1 h)];simp [Nat.not_lt.1 h,qal,qtz,qgm,List.getD_eq_getElem?_getD]
theorem q2g (xs:List S34) (n:Nat):qgm (((qal.encL xs).getD n []).getD 8 .ne)=(xs.getD n (qal.dec [])).End_Week:=by
 by_cases h:n<xs.length
 ·simp only [EC.getD_lt _ _ h];simp [qas,h,qgm,List.getD_eq_getElem?_getD]
 ·simp only [EC.getD_ge _ _ (Nat.not_lt.1 h)];simp [Nat.not_lt.1 h,qal,qtz,qgm,List.getD_eq_getElem?_getD]
theorem q2h (xs:List S34) (n:Nat):qgm (((qal.encL xs).getD n []).getD 9 .ne)=(xs.getD n (qal.dec [])).End_Weekday:=by
 by_cases h:n<xs.length
 ·simp only [EC.getD_lt _ _ h];simp [qas,h,qgm,List.getD_eq_getElem?_getD]
 ·simp only [EC.getD_ge _ _ (Nat.not_lt.1 h)];simp [Nat.not_lt.1 h,qal,qtz,qgm,List.getD_eq_getElem?_getD]
theorem q29 (xs:List S34) (n:Nat):qgm (((qal.encL xs).getD n []).getD 10 .ne)=(xs.getD n (qal.dec [])).End_Minute:=by
 by_cases h:n<xs.length
 ·simp only [EC.getD_lt _ _ h];simp [qas,h,qgm,List.getD_eq_getElem?_getD]
 ·simp only [EC.getD_ge _ _ (Nat.not_lt.1 h)];simp [Nat.not_lt.1 h,qal,qtz,qgm,List.getD_eq_getElem?_getD]
theorem lit_34 (a0:ByteArray) (a1:Int) (a2:Int) (a3:Int) (a4:Int) (a5:Int) (a6:Int) (a7:Int) (a8:Int) (a9:Int) (a10:Int):([.str a0,.int .i64 a1,.int .i64 a2,.int .i64 a3,.int .i64 a4,.int .i64 a5,.int .i64 a6,.int .i64 a7,.int .i64 a8,.int .i64 a9,.int .i64 a10]:List C)=qal.enc (⟨a0,a1,a2,a3,a4,a5,a6,a7,a8,a9,a10⟩:S34):=rfl
theorem q1y (xs:List S34) (a0:ByteArray) (a1:Int) (a2:Int) (a3:Int) (a4:Int) (a5:Int) (a6:Int) (a7:Int) (a8:Int) (a9:Int) (a10:Int):qal.encL xs++[[.str a0,.int .i64 a1,.int .i64 a2,.int .i64 a3,.int .i64 a4,.int .i64 a5,.int .i64 a6,.int .i64 a7,.int .i64 a8,.int .i64 a9,.int .i64 a10]]=qal.encL (xs++[(⟨a0,a1,a2,a3,a4,a5,a6,a7,a8,a9,a10⟩:S34)]):=by rw [lit_34];simp [EC.encL]
theorem q1m (xs:List S34):(qal.encL xs).all (fun (el:List C)=>el.length==11)=true:=by induction xs with|nil=>rfl|cons x xs ih=>first|(simp [EC.encL,qas];done)|simpa [EC.encL,qas] using ih
theorem qqu (xs:List S34) (n:Nat) (a0:ByteArray) (a1:Int) (a2:Int) (a3:Int) (a4:Int) (a5:Int) (a6:Int) (a7:Int) (a8:Int) (a9:Int) (a10:Int):(qal.encL xs).set n (splice ((qal.encL xs).getD n []) 0 [.str a0,.int .i64 a1,.int .i64 a2,.int .i64 a3,.int .i64 a4,.int .i64 a5,.int .i64 a6,.int .i64 a7,.int .i64 a8,.int .i64 a9,.int .i64 a10])=qal.encL (xs.set n ({ xs.getD n (qal.dec []) with Name:=a0,Standard:=a1,Summer:=a2,Begin_Month:=a3,Begin_Week:=a4,Begin_Weekday:=a5,Begin_Minute:=a6,End_Month:=a7,End_Week:=a8,End_Weekday:=a9,End_Minute:=a10 })):=by
 by_cases h:n<xs.length
 ·rw [EC.getD_lt _ _ h];simp [EC.encL,List.map_set,qas,splice]
 ·simp [EC.encL,List.set_eq_of_length_le,Nat.not_lt.1 h]
theorem qqt (xs:List S34) (n:Nat) (a0:ByteArray):(qal.encL xs).set n (splice ((qal.encL xs).getD n []) 0 [.str a0])=qal.encL (xs.set n ({ xs.getD n (qal.dec []) with Name:=a0 })):=by
 by_cases h:n<xs.length
 ·rw [EC.getD_lt _ _ h];simp [EC.encL,List.map_set,qas,splice,List.getD_eq_getElem?_getD,h]
 ·simp [EC.encL,List.set_eq_of_length_le,Nat.not_lt.1 h]
theorem qqw (xs:List S34) (n:Nat) (a1:Int):(qal.encL xs).set n (splice ((qal.encL xs).getD n []) 1 [.int .i64 a1])=qal.encL (xs.set n ({ xs.getD n (qal.dec []) with Standard:=a1 })):=by
 by_cases h:n<xs.length
 ·rw [EC.getD_lt _ _ h];simp [EC.encL,List.map_set,qas,splice,List.getD_eq_getElem?_getD,h]
 ·simp [EC.encL,List.set_eq_of_length_le,Nat.not_lt.1 h]
theorem qqx (xs:List S34) (n:Nat) (a2:Int):(qal.encL xs).set n (splice ((qal.encL xs).getD n []) 2 [.int .i64 a2])=qal.encL (xs.set n ({ xs.getD n (qal.dec []) with Summer:=a2 })):=by
 by_cases h:n<xs.length
 ·rw [EC.getD_lt _ _ h];simp [EC.encL,List.map_set,qas,splice,List.getD_eq_getElem?_getD,h]
 ·simp [EC.encL,List.set_eq_of_length_le,Nat.not_lt.1 h]
theorem qqz (xs:List S34) (n:Nat) (a3:Int) (a4:Int) (a5:Int) (a6:Int):(qal.encL xs).set n (splice ((qal.encL xs).getD n []) 3 [.int .i64 a3,.int .i64 a4,.int .i64 a5,.int .i64 a6])=qal.encL (xs.set n ({ xs.getD n (qal.dec []) with Begin_Month:=a3,Begin_Week:=a4,Begin_Weekday:=a5,Begin_Minute:=a6 })):=by
 by_cases h:n<xs.length
 ·rw [EC.getD_lt _ _ h];simp [EC.encL,List.map_set,qas,splice,List.getD_eq_getElem?_getD,h]
 ·simp [EC.encL,List.set_eq_of_length_le,Nat.not_lt.1 h]
theorem qqy (xs:List S34) (n:Nat) (a3:Int):(qal.encL xs).set n (splice ((qal.encL xs).getD n []) 3 [.int .i64 a3])=qal.encL (xs.set n ({ xs.getD n (qal.dec []) with Begin_Month:=a3 })):=by
 by_cases h:n<xs.length
 ·rw [EC.getD_lt _ _ h];simp [EC.encL,List.map_set,qas,splice,List.getD_eq_getElem?_getD,h]
 ·simp [EC.encL,List.set_eq_of_length_le,Nat.not_lt.1 h]
theorem qr0 (xs:List S34) (n:Nat) (a4:Int):(qal.encL xs).set n (splice ((qal.encL xs).getD n []) 4 [.int .i64 a4])=qal.encL (xs.set n ({ xs.getD n (qal.dec []) with Begin_Week:=a4 })):=by
 by_cases h:n<xs.length
 ·rw [EC.getD_lt _ _ h];simp [EC.encL,List.map_set,qas,splice,List.getD_eq_getElem?_getD,h]
 ·simp [EC.encL,List.set_eq_of_length_le,Nat.not_lt.1 h]
theorem qr1 (xs:List S34) (n:Nat) (a5:Int):(qal.encL xs).set n (splice ((qal.encL xs).getD n []) 5 [.int .i64 a5])=qal.encL (xs.set n ({ xs.getD n (qal.dec []) with Begin_Weekday:=a5 })):=by
 by_cases h:n<xs.length
 ·rw [EC.getD_lt _ _ h];simp [EC.encL,List.map_set,qas,splice,List.getD_eq_getElem?_getD,h]
 ·simp [EC.encL,List.set_eq_of_length_le,Nat.not_lt.1 h]
theorem qr2 (xs:List S34) (n:Nat) (a6:Int):(qal.encL xs).set n (splice ((qal.encL xs).getD n []) 6 [.int .i64 a6])=qal.encL (xs.set n ({ xs.getD n (qal.dec []) with Begin_Minute:=a6 })):=by
 by_cases h:n<xs.length
 ·rw [EC.getD_lt _ _ h];simp [EC.encL,List.map_set,qas,splice,List.getD_eq_getElem?_getD,h]
 ·simp [EC.encL,List.set_eq_of_length_le,Nat.not_lt.1 h]
theorem qr4 (xs:List S34) (n:Nat) (a7:Int) (a8:Int) (a9:Int) (a10:Int):(qal.encL xs).set n (splice ((qal.encL xs).getD n []) 7 [.int .i64 a7,.int .i64 a8,.int .i64 a9,.int .i64 a10])=qal.encL (xs.set n ({ xs.getD n (qal.dec []) with End_Month:=a7,End_Week:=a8,End_Weekday:=a9,End_Minute:=a10 })):=by
 by_cases h:n<xs.length
 ·rw [EC.getD_lt _ _ h];simp [EC.encL,List.map_set,qas,splice,List.getD_eq_getElem?_getD,h]
 ·simp [EC.encL,List.set_eq_of_length_le,Nat.not_lt.1 h]
theorem qr3 (xs:List S34) (n:Nat) (a7:Int):(qal.encL xs).set n (splice ((qal.encL xs).getD n []) 7 [.int .i64 a7])=qal.encL (xs.set n ({ xs.getD n (qal.dec []) with End_Month:=a7 })):=by
 by_cases h:n<xs.length
 ·rw [EC.getD_lt _ _ h];simp [EC.encL,List.map_set,qas,splice,List.getD_eq_getElem?_getD,h]
 ·simp [EC.encL,List.set_eq_of_length_le,Nat.not_lt.1 h]
theorem qr5 (xs:List S34) (n:Nat) (a8:Int):(qal.encL xs).set n (splice ((qal.encL xs).getD n []) 8 [.int .i64 a8])=qal.encL (xs.set n ({ xs.getD n (qal.dec []) with End_Week:=a8 })):=by
 by_cases h:n<xs.length
 ·rw [EC.getD_lt _ _ h];simp [EC.encL,List.map_set,qas,splice,List.getD_eq_getElem?_getD,h]
 ·simp [EC.encL,List.set_eq_of_length_le,Nat.not_lt.1 h]
theorem qr6 (xs:List S34) (n:Nat) (a9:Int):(qal.encL xs).set n (splice ((qal.encL xs).getD n []) 9 [.int .i64 a9])=qal.encL (xs.set n ({ xs.getD n (qal.dec []) with End_Weekday:=a9 })):=by
 by_cases h:n<xs.length
 ·rw [EC.getD_lt _ _ h];simp [EC.encL,List.map_set,qas,splice,List.getD_eq_getElem?_getD,h]
 ·simp [EC.encL,List.set_eq_of_length_le,Nat.not_lt.1 h]
theorem qqv (xs:List S34) (n:Nat) (a10:Int):(qal.encL xs).set n (splice ((qal.encL xs).getD n []) 10 [.int .i64 a10])=qal.encL (xs.set n ({ xs.getD n (qal.dec []) with End_Minute:=a10 })):=by
 by_cases h:n<xs.length
 ·rw [EC.getD_lt _ _ h];simp [EC.encL,List.map_set,qas,splice,List.getD_eq_getElem?_getD,h]
 ·simp [EC.encL,List.set_eq_of_length_le,Nat.not_lt.1 h]
def qg3:=(qhl (vC (cSl qal)) (qhn (vFn 38 (qhn (vEptr (qhl cStr (qhl (cInt .i64) (qhl (cInt .i64) (qhl cStr (qhl cStr (qhl cStr (qhl (cSl qaj) (qhl cStr (qhl (cInt .i64) (qhl (cInt .i64) (qhl (cInt .i64) (qhl (cInt .i64) (qhl (cInt .i64) (qhl (cInt .i64) (qhl (cInt .i64) (qhl (cInt .i64) (qhl (cInt .i64) (qhl (cInt .i64) (qhl (cInt .i64) (qhl (cInt .i64) (qhl cBool (qhl (cSl qak) (qhl (cSl qak) (qhn (cSl qak))))))))))))))))))))))))) 0)))))
def qgc:=sLS [0,1,7,8] (qhl (vC (cSl qal)) (qhl (vFn 38 (qhn (vEptr (qhl cStr (qhl (cInt .i64) (qhl (cInt .i64) (qhl cStr (qhl cStr (qhl cStr (qhl (cSl qaj) (qhl cStr (qhl (cInt .i64) (qhl (cInt .i64) (qhl (cInt .i64) (qhl (cInt .i64) (qhl (cInt .i64) (qhl (cInt .i64) (qhl (cInt .i64) (qhl (cInt .i64) (qhl (cInt .i64) (qhl (cInt .i64) (qhl (cInt .i64) (qhl (cInt .i64) (qhl cBool (qhl (cSl qak) (qhl (cSl qak) (qhn (cSl qak))))))))))))))))))))))))) 0))) (qhl (vC (cInt .i64)) (qhn (vC (cInt .i64)))))) qhm [] [] (by decide) (fun _=>rfl)
def qgb:=sLS [0,1,7,8,9] (qhl (vC (cSl qal)) (qhl (vFn 38 (qhn (vEptr (qhl cStr (qhl (cInt .i64) (qhl (cInt .i64) (qhl cStr (qhl cStr (qhl cStr (qhl (cSl qaj) (qhl cStr (qhl (cInt .i64) (qhl (cInt .i64) (qhl (cInt .i64) (qhl (cInt .i64) (qhl (cInt .i64) (qhl (cInt .i64) (qhl (cInt .i64) (qhl (cInt .i64) (qhl (cInt .i64) (qhl (cInt .i64) (qhl (cInt .i64) (qhl (cInt .i64) (qhl cBool (qhl (cSl qak) (qhl (cSl qak) (qhn (cSl qak))))))))))))))))))))))))) 0))) (qhl (vC (cInt .i64)) (qhl (vC (cInt .i64)) (qhn (vC cBool)))))) qhm [] [] (by decide) (fun _=>rfl)
def qga:=sLS [4] (qhn (vC (cInt .i64))) qhm [] [] (by decide) (fun _=>rfl)
def qg9:=oOr 1 qga (oAt 2 qgb) (fun x=>(by decide:(2:Nat)≠1))
def qg6 (s:(List S34)) (f:ByteArray) (f_1:Int) (f_2:Int) (f_3:ByteArray) (f_4:ByteArray) (f_5:ByteArray) (f_6:(List S152)) (f_7:ByteArray) (f_8:Int) (f_9:Int) (f_10:Int) (f_11:Int) (f_12:Int) (f_13:Int) (f_14:Int) (f_15:Int) (f_16:Int) (f_17:Int) (f_18:Int) (f_19:Int) (f_20:Bool) (f_21:(List Int)) (f_22:(List Int)) (f_23:(List Int)) (t7:Int) (t8:Int):Option ((Int×Unit)⊕(((List S34)×(ByteArray×Int×Int×ByteArray×ByteArray×ByteArray×(List S152)×ByteArray×Int×Int×Int×Int×Int×Int×Int×Int×Int×Int×Int×Int×Bool×(List Int)×(List Int)×(List Int))×Int×Int×Bool)×Unit)):=lS Tryz.prog lv X1 37 19 (qfp (cdF Tryz.f37) 2) qgc qg9 ((s,(f,f_1,f_2,f_3,f_4,f_5,f_6,f_7,f_8,f_9,f_10,f_11,f_12,f_13,f_14,f_15,f_16,f_17,f_18,f_19,f_20,f_21,f_22,f_23),t7,t8),())
def qgd (s:(List S34)) (f:ByteArray) (f_1:Int) (f_2:Int) (f_3:ByteArray) (f_4:ByteArray) (f_5:ByteArray) (f_6:(List S152)) (f_7:ByteArray) (f_8:Int) (f_9:Int) (f_10:Int) (f_11:Int) (f_12:Int) (f_13:Int) (f_14:Int) (f_15:Int) (f_16:Int) (f_17:Int) (f_18:Int) (f_19:Int) (f_20:Bool) (f_21:(List Int)) (f_22:(List Int)) (f_23:(List Int)) (t7:Int) (t8:Int):Option ((Int×Unit)⊕(((List S34)×(ByteArray×Int×Int×ByteArray×ByteArray×ByteArray×(List S152)×ByteArray×Int×Int×Int×Int×Int×Int×Int×Int×Int×Int×Int×Int×Bool×(List Int)×(List Int)×(List Int))×Int×Int×Bool)×Unit)) :=
 (brE (decide (t8<t7))
 (gdE (decide (0≤t8))<|
 (gdE ((decide ((Int.toNat t8)<(List.length (EC.encL qal s))))&&(isE [K1.str,(K1.int Go.IntKind.i64),(K1.int Go.IntKind.i64),(K1.int Go.IntKind.i64),(K1.int Go.IntKind.i64),(K1.int Go.IntKind.i64),(K1.int Go.IntKind.i64),(K1.int Go.IntKind.i64),(K1.int Go.IntKind.i64),(K1.int Go.IntKind.i64),(K1.int Go.IntKind.i64)] 0 (List.getD (EC.encL qal s) (Int.toNat t8) [])))<|
 (gdE (EC.isL qaj (EC.encL qaj f_6))<|
 (gdE (EC.isL qak (EC.encL qak f_21))<|
 (gdE (EC.isL qak (EC.encL qak f_22))<|
 (gdE (EC.isL qak (EC.encL qak f_23))<|
 ((evz_s (qtz (List.getD (List.getD (EC.encL qal s) (Int.toNat t8) []) 0 C.ne)) (qgm (List.getD (List.getD (EC.encL qal s) (Int.toNat t8) []) 1 C.ne)) (qgm (List.getD (List.getD (EC.encL qal s) (Int.toNat t8) []) 2 C.ne)) (qgm (List.getD (List.getD (EC.encL qal s) (Int.toNat t8) []) 3 C.ne)) (qgm (List.getD (List.getD (EC.encL qal s) (Int.toNat t8) []) 4 C.ne)) (qgm (List.getD (List.getD (EC.encL qal s) (Int.toNat t8) []) 5 C.ne)) (qgm (List.getD (List.getD (EC.encL qal s) (Int.toNat t8) []) 6 C.ne)) (qgm (List.getD (List.getD (EC.encL qal s) (Int.toNat t8) []) 7 C.ne)) (qgm (List.getD (List.getD (EC.encL qal s) (Int.toNat t8) []) 8 C.ne)) (qgm (List.getD (List.getD (EC.encL qal s) (Int.toNat t8) []) 9 C.ne)) (qgm (List.getD (List.getD (EC.encL qal s) (Int.toNat t8) []) 10 C.ne)) f f_1 f_2 f_3 f_4 f_5 (EC.decL qaj (EC.encL qaj f_6)) f_7 f_8 f_9 f_10 f_11 f_12 f_13 f_14 f_15 f_16 f_17 f_18 f_19 f_20 (EC.decL qak (EC.encL qak f_21)) (EC.decL qak (EC.encL qak f_22)) (EC.decL qak (EC.encL qak f_23))).bind fun r0 =>
 (brE r0
 (some (.inl (t8,())))
 (gdE (EC.isL qal (EC.encL qal s))<|
 (gdE (EC.isL qaj (EC.encL qaj f_6))<|
 (gdE (EC.isL qak (EC.encL qak f_21))<|
 (gdE (EC.isL qak (EC.encL qak f_22))<|
 (gdE (EC.isL qak (EC.encL qak f_23))<|
 (qg6 (EC.decL qal (EC.encL qal s)) f f_1 f_2 f_3 f_4 f_5 (EC.decL qaj (EC.encL qaj f_6)) f_7 f_8 f_9 f_10 f_11 f_12 f_13 f_14 f_15 f_16 f_17 f_18 f_19 f_20 (EC.decL qak (EC.encL qak f_21)) (EC.decL qak (EC.encL qak f_22)) (EC.decL qak (EC.encL qak f_23)) t7 (IntKind.wrap .i64 (t8+1))))))))))))))))
 (gdE (EC.isL qal (EC.encL qal s))<|
 (gdE (EC.isL qaj (EC.encL qaj f_6))<|
 (gdE (EC.isL qak (EC.encL qak f_21))<|
 (gdE (EC.isL qak (EC.encL qak f_22))<|
 (gdE (EC.isL qak (EC.encL qak f_23))<|
 (some (.inr (((EC.decL qal (EC.encL qal s)),((f,(f_1,(f_2,(f_3,(f_4,(f_5,((EC.decL qaj (EC.encL qaj f_6)),(f_7,(f_8,(f_9,(f_10,(f_11,(f_12,(f_13,(f_14,(f_15,(f_16,(f_17,(f_18,(f_19,(f_20,((EC.decL qak (EC.encL qak f_21)),((EC.decL qak (EC.encL qak f_22)),(EC.decL qak (EC.encL qak f_23))))))))))))))))))))))))),(t7,(t8,false)))),())))))))))
theorem qg8 {s f f_1 f_2 f_3 f_4 f_5 f_6 f_7 f_8 f_9 f_10 f_11 f_12 f_13 f_14 f_15 f_16 f_17 f_18 f_19 f_20 f_21 f_22 f_23 t7 t8 r} (h:qgd s f f_1 f_2 f_3 f_4 f_5 f_6 f_7 f_8 f_9 f_10 f_11 f_12 f_13 f_14 f_15 f_16 f_17 f_18 f_19 f_20 f_21 f_22 f_23 t7 t8=some r):qg6 s f f_1 f_2 f_3 f_4 f_5 f_6 f_7 f_8 f_9 f_10 f_11 f_12 f_13 f_14 f_15 f_16 f_17 f_18 f_19 f_20 f_21 f_22 f_23 t7 t8=some r :=
 qhp (es:=qus) (hs:=[]) [] (by kernel_rfl) trivial trivial (by kernel_rfl) h
def qg7:=qj2 Tryz.prog lv X1 2 (qfp (cdF Tryz.f37) 2) qgc qg9 (fun x=>qg6 x.1.1 x.1.2.1.1 x.1.2.1.2.1 x.1.2.1.2.2.1 x.1.2.1.2.2.2.1 x.1.2.1.2.2.2.2.1 x.1.2.1.2.2.2.2.2.1 x.1.2.1.2.2.2.2.2.2.1 x.1.2.1.2.2.2.2.2.2.2.1 x.1.2.1.2.2.2.2.2.2.2.2.1 x.1.2.1.2.2.2.2.2.2.2.2.2.1 x.1.2.1.2.2.2.2.2.2.2.2.2.2.1 x.1.2.1.2.2.2.2.2.2.2.2.2.2.2.1 x.1.2.1.2.2.2.2.2.2.2.2.2.2.2.2.1 x.1.2.1.2.2.2.2.2.2.2.2.2.2.2.2.2.1 x.1.2.1.2.2.2.2.2.2.2.2.2.2.2.2.2.2.1 x.1.2.1.2.2.2.2.2.2.2.2.2.2.2.2.2.2.2.1 x.1.2.1.2.2.2.2.2.2.2.2.2.2.2.2.2.2.2.2.1 x.1.2.1.2.2.2.2.2.2.2.2.2.2.2.2.2.2.2.2.2.1 x.1.2.1.2.2.2.2.2.2.2.2.2.2.2.2.2.2.2.2.2.2.1 x.1.2.1.2.2.2.2.2.2.2.2.2.2.2.2.2.2.2.2.2.2.2.1 x.1.2.1.2.2.2.2.2.2.2.2.2.2.2.2.2.2.2.2.2.2.2.2.1 x.1.2.1.2.2.2.2.2.2.2.2.2.2.2.2.2.2.2.2.2.2.2.2.2.1 x.1.2.1.2.2.2.2.2.2.2.2.2.2.2.2.2.2.2.2.2.2.2.2.2.2.1 x.1.2.1.2.2.2.2.2.2.2.2.2.2.2.2.2.2.2.2.2.2.2.2.2.2.2 x.1.2.2.1 x.1.2.2.2) (fun _ _ h=>qho h)
def qg4:Cod (V×List B) Int:=(cFstU (cPair (vC (cInt .i64)) qhm))
def idxZ_s (s:(List S34)) (f_0:ByteArray) (f_1:Int) (f_2:Int) (f_3:ByteArray) (f_4:ByteArray) (f_5:ByteArray) (f_6:(List S152)) (f_7:ByteArray) (f_8:Int) (f_9:Int) (f_10:Int) (f_11:Int) (f_12:Int) (f_13:Int) (f_14:Int) (f_15:Int) (f_16:Int) (f_17:Int) (f_18:Int) (f_19:Int) (f_20:Bool) (f_21:(List Int)) (f_22:(List Int)) (f_23:(List Int)):Option Int:=fS Tryz.prog lv X1 37 qg3 qg4 (s,(f_0,f_1,f_2,f_3,f_4,f_5,f_6,f_7,f_8,f_9,f_10,f_11,f_12,f_13,f_14,f_15,f_16,f_17,f_18,f_19,f_20,f_21,f_22,f_23))
def idxZ_t (s:(List S34)) (f_0:ByteArray) (f_1:Int) (f_2:Int) (f_3:ByteArray) (f_4:ByteArray) (f_5:ByteArray) (f_6:(List S152)) (f_7:ByteArray) (f_8:Int) (f_9:Int) (f_10:Int) (f_11:Int) (f_12:Int) (f_13:Int) (f_14:Int) (f_15:Int) (f_16:Int) (f_17:Int) (f_18:Int) (f_19:Int) (f_20:Bool) (f_21:(List Int)) (f_22:(List Int)) (f_23:(List Int)):Option Int :=
 (gdE (EC.isL qal (EC.encL qal s))<|
 (gdE (EC.isL qaj (EC.encL qaj f_6))<|
 (gdE (EC.isL qak (EC.encL qak f_21))<|
 (gdE (EC.isL qak (EC.encL qak f_22))<|
 (gdE (EC.isL qak (EC.encL qak f_23))<|
 ((qg6 (EC.decL qal (EC.encL qal s)) f_0 f_1 f_2 f_3 f_4 f_5 (EC.decL qaj (EC.encL qaj f_6)) f_7 f_8 f_9 f_10 f_11 f_12 f_13 f_14 f_15 f_16 f_17 f_18 f_19 f_20 (EC.decL qak (EC.encL qak f_21)) (EC.decL qak (EC.encL qak f_22)) (EC.decL qak (EC.encL qak f_23)) (List.length (EC.encL qal s):Int) 0).bind fun r0 =>
 (Sum.elim (fun r1=>(some r1.1))
 (fun r1=>(some (-1:Int))) r0)))))))
theorem qg5 {s f_0 f_1 f_2 f_3 f_4 f_5 f_6 f_7 f_8 f_9 f_10 f_11 f_12 f_13 f_14 f_15 f_16 f_17 f_18 f_19 f_20 f_21 f_22 f_23 r} (h:idxZ_t s f_0 f_1 f_2 f_3 f_4 f_5 f_6 f_7 f_8 f_9 f_10 f_11 f_12 f_13 f_14 f_15 f_16 f_17 f_18 f_19 f_20 f_21 f_22 f_23=some r):idxZ_s s f_0 f_1 f_2 f_3 f_4 f_5 f_6 f_7 f_8 f_9 f_10 f_11 f_12 f_13 f_14 f_15 f_16 f_17 f_18 f_19 f_20 f_21 f_22 f_23=some r :=
 qbx (es:=qus) (hs:=[]) [qg7] Tryz.func37 rfl (by kernel_rfl) rfl (by kernel_rfl) (by kernel_rfl) ⟨⟨_,rfl,rfl⟩,trivial⟩ trivial (by kernel_rfl) h
def idxZ_e:=entS Tryz.prog lv X1 37 [38] qg3 qg4 (fun x=>idxZ_s x.1 x.2.1 x.2.2.1 x.2.2.2.1 x.2.2.2.2.1 x.2.2.2.2.2.1 x.2.2.2.2.2.2.1 x.2.2.2.2.2.2.2.1 x.2.2.2.2.2.2.2.2.1 x.2.2.2.2.2.2.2.2.2.1 x.2.2.2.2.2.2.2.2.2.2.1 x.2.2.2.2.2.2.2.2.2.2.2.1 x.2.2.2.2.2.2.2.2.2.2.2.2.1 x.2.2.2.2.2.2.2.2.2.2.2.2.2.1 x.2.2.2.2.2.2.2.2.2.2.2.2.2.2.1 x.2.2.2.2.2.2.2.2.2.2.2.2.2.2.2.1 x.2.2.2.2.2.2.2.2.2.2.2.2.2.2.2.2.1 x.2.2.2.2.2.2.2.2.2.2.2.2.2.2.2.2.2.1 x.2.2.2.2.2.2.2.2.2.2.2.2.2.2.2.2.2.2.1 x.2.2.2.2.2.2.2.2.2.2.2.2.2.2.2.2.2.2.2.1 x.2.2.2.2.2.2.2.2.2.2.2.2.2.2.2.2.2.2.2.2.1 x.2.2.2.2.2.2.2.2.2.2.2.2.2.2.2.2.2.2.2.2.2.1 x.2.2.2.2.2.2.2.2.2.2.2.2.2.2.2.2.2.2.2.2.2.2.1 x.2.2.2.2.2.2.2.2.2.2.2.2.2.2.2.2.2.2.2.2.2.2.2.1 x.2.2.2.2.2.2.2.2.2.2.2.2.2.2.2.2.2.2.2.2.2.2.2.2) (fun _ _ h=>qbw h)
def qv0:=idxZ_e::qus
def evt_ca:=(qhl (vAgg (qhl (vC cStr) (qhl (vC (cInt .i64)) (qhl (vC (cInt .i64)) (qhl (vC cStr) (qhl (vC cStr) (qhl (vC cStr) (qhl (vC (cSl qaj)) (qhl (vC cStr) (qhl (vC (cInt .i64)) (qhl (vC (cInt .i64)) (qhl (vC (cInt .i64)) (qhl (vC (cInt .i64)) (qhl (vC (cInt .i64)) (qhl (vC (cInt .i64)) (qhl (vC (cInt .i64)) (qhl (vC (cInt .i64)) (qhl (vC (cInt .i64)) (qhl (vC (cInt .i64)) (qhl (vC (cInt .i64)) (qhl (vC (cInt .i64)) (qhl (vC cBool) (qhl (vC (cSl qak)) (qhl (vC (cSl qak)) (qhn (vC (cSl qak))))))))))))))))))))))))))) (qhl (vC (cSl qal)) (qhl (vC (cInt .i64)) (qhn (vC (cInt .i64))))))
def qbq:=sLS [2,3,4,13,57,58,59] (qhl (vC (cInt .i64)) (qhl (vC (cInt .i64)) (qhl (vPtr 0 0) (qhl (vRow 1) (qhl (vC (cSl qak)) (qhl (vC (cInt .i64)) (qhn (vC (cInt .i64))))))))) (qhl (qkg (bBox (qhl (vC cStr) (qhl (vC (cInt .i64)) (qhl (vC (cInt .i64)) (qhl (vC cStr) (qhl (vC cStr) (qhl (vC cStr) (qhl (vC (cSl qaj)) (qhl (vC cStr) (qhl (vC (cInt .i64)) (qhl (vC (cInt .i64)) (qhl (vC (cInt .i64)) (qhl (vC (cInt .i64)) (qhl (vC (cInt .i64)) (qhl (vC (cInt .i64)) (qhl (vC (cInt .i64)) (qhl (vC (cInt .i64)) (qhl (vC (cInt .i64)) (qhl (vC (cInt .i64)) (qhl (vC (cInt .i64)) (qhl (vC (cInt .i64)) (qhl (vC cBool) (qhl (vC (cSl qak)) (qhl (vC (cSl qak)) (qhn (vC (cSl qak)))))))))))))))))))))))))))) (qhn (qkg (bRow qan)))) [false,false] [] (by decide) (fun _=>rfl)
def qbp:=sLS [2,3,4,13,57,58,59,60] (qhl (vC (cInt .i64)) (qhl (vC (cInt .i64)) (qhl (vPtr 0 0) (qhl (vRow 1) (qhl (vC (cSl qak)) (qhl (vC (cInt .i64)) (qhl (vC (cInt .i64)) (qhn (vC cBool))))))))) (qhl (qkg (bBox (qhl (vC cStr) (qhl (vC (cInt .i64)) (qhl (vC (cInt .i64)) (qhl (vC cStr) (qhl (vC cStr) (qhl (vC cStr) (qhl (vC (cSl qaj)) (qhl (vC cStr) (qhl (vC (cInt .i64)) (qhl (vC (cInt .i64)) (qhl (vC (cInt .i64)) (qhl (vC (cInt .i64)) (qhl (vC (cInt .i64)) (qhl (vC (cInt .i64)) (qhl (vC (cInt .i64)) (qhl (vC (cInt .i64)) (qhl (vC (cInt .i64)) (qhl (vC (cInt .i64)) (qhl (vC (cInt .i64)) (qhl (vC (cInt .i64)) (qhl (vC cBool) (qhl (vC (cSl qak)) (qhl (vC (cSl qak)) (qhn (vC (cSl qak)))))))))))))))))))))))))))) (qhn (qkg (bRow qan)))) [false,false] [] (by decide) (fun _=>rfl)
def qbo:=oAt 2 qbp
def qbl (from_:Int) (to_:Int) (out:Nat) (t57:(List Int)) (t58:Int) (t59:Int) (b0:ByteArray) (b0_1:Int) (b0_2:Int) (b0_3:ByteArray) (b0_4:ByteArray) (b0_5:ByteArray) (b0_6:(List S152)) (b0_7:ByteArray) (b0_8:Int) (b0_9:Int) (b0_10:Int) (b0_11:Int) (b0_12:Int) (b0_13:Int) (b0_14:Int) (b0_15:Int) (b0_16:Int) (b0_17:Int) (b0_18:Int) (b0_19:Int) (b0_20:Bool) (b0_21:(List Int)) (b0_22:(List Int)) (b0_23:(List Int)) (b1:(List S47)):Option ((Int×Int×Unit×Nat×(List Int)×Int×Int×Bool)×((ByteArray×Int×Int×ByteArray×ByteArray×ByteArray×(List S152)×ByteArray×Int×Int×Int×Int×Int×Int×Int×Int×Int×Int×Int×Int×Bool×(List Int)×(List Int)×(List Int))×(List S47))):=lS Tryz.prog lv X1 16 79 (qfp (cdF Tryz.f16) 11) qbq qbo ((from_,to_,(),out,t57,t58,t59),((b0,b0_1,b0_2,b0_3,b0_4,b0_5,b0_6,b0_7,b0_8,b0_9,b0_10,b0_11,b0_12,b0_13,b0_14,b0_15,b0_16,b0_17,b0_18,b0_19,b0_20,b0_21,b0_22,b0_23),b1))
def qbr (from_:Int) (to_:Int) (out:Nat) (t57:(List Int)) (t58:Int) (t59:Int) (b0:ByteArray) (b0_1:Int) (b0_2:Int) (b0_3:ByteArray) (b0_4:ByteArray) (b0_5:ByteArray) (b0_6:(List S152)) (b0_7:ByteArray) (b0_8:Int) (b0_9:Int) (b0_10:Int) (b0_11:Int) (b0_12:Int) (b0_13:Int) (b0_14:Int) (b0_15:Int) (b0_16:Int) (b0_17:Int) (b0_18:Int) (b0_19:Int) (b0_20:Bool) (b0_21:(List Int)) (b0_22:(List Int)) (b0_23:(List Int)) (b1:(List S47)):Option ((Int×Int×Unit×Nat×(List Int)×Int×Int×Bool)×((ByteArray×Int×Int×ByteArray×ByteArray×ByteArray×(List S152)×ByteArray×Int×Int×Int×Int×Int×Int×Int×Int×Int×Int×Int×Int×Bool×(List Int)×(List Int)×(List Int))×(List S47))) :=
 (brE (decide (t59<t58))
 (gdE (decide (0≤t59))<|
 (gdE ((decide ((Int.toNat t59)<(List.length (EC.encL qak t57))))&&(isE [(K1.int Go.IntKind.i64)] 0 (List.getD (EC.encL qak t57) (Int.toNat t59) [])))<|
 (gdE ((((List.all [[(C.int Go.IntKind.i64 (ite (true=true) (ite ((qgm (List.getD (List.getD (EC.encL qak t57) (Int.toNat t59) []) 0 C.ne))<from_) from_ (qgm (List.getD (List.getD (EC.encL qak t57) (Int.toNat t59) []) 0 C.ne))) (ite (from_<(qgm (List.getD (List.getD (EC.encL qak t57) (Int.toNat t59) []) 0 C.ne))) from_ (qgm (List.getD (List.getD (EC.encL qak t57) (Int.toNat t59) []) 0 C.ne))))),(C.int Go.IntKind.i64 (ite (false=true) (ite ((IntKind.wrap .i64 ((qgm (List.getD (List.getD (EC.encL qak t57) (Int.toNat t59) []) 0 C.ne))+(IntKind.wrap .i64 (60*b0_15))))<to_) to_ (IntKind.wrap .i64 ((qgm (List.getD (List.getD (EC.encL qak t57) (Int.toNat t59) []) 0 C.ne))+(IntKind.wrap .i64 (60*b0_15))))) (ite (to_<(IntKind.wrap .i64 ((qgm (List.getD (List.getD (EC.encL qak t57) (Int.toNat t59) []) 0 C.ne))+(IntKind.wrap .i64 (60*b0_15))))) to_ (IntKind.wrap .i64 ((qgm (List.getD (List.getD (EC.encL qak t57) (Int.toNat t59) []) 0 C.ne))+(IntKind.wrap .i64 (60*b0_15)))))))]] (fun (el:(List C))=>((List.length el)==2)))&&(List.all (EC.encL qan b1) (fun (el:(List C))=>((List.length el)==2))))&&(decide (((((out+(List.length [[(C.int Go.IntKind.i64 (ite (true=true) (ite ((qgm (List.getD (List.getD (EC.encL qak t57) (Int.toNat t59) []) 0 C.ne))<from_) from_ (qgm (List.getD (List.getD (EC.encL qak t57) (Int.toNat t59) []) 0 C.ne))) (ite (from_<(qgm (List.getD (List.getD (EC.encL qak t57) (Int.toNat t59) []) 0 C.ne))) from_ (qgm (List.getD (List.getD (EC.encL qak t57) (Int.toNat t59) []) 0 C.ne))))),(C.int Go.IntKind.i64 (ite (false=true) (ite ((IntKind.wrap .i64 ((qgm (List.getD (List.getD (EC.encL qak t57) (Int.toNat t59) []) 0 C.ne))+(IntKind.wrap .i64 (60*b0_15))))<to_) to_ (IntKind.wrap .i64 ((qgm (List.getD (List.getD (EC.encL qak t57) (Int.toNat t59) []) 0 C.ne))+(IntKind.wrap .i64 (60*b0_15))))) (ite (to_<(IntKind.wrap .i64 ((qgm (List.getD (List.getD (EC.encL qak t57) (Int.toNat t59) []) 0 C.ne))+(IntKind.wrap .i64 (60*b0_15))))) to_ (IntKind.wrap .i64 ((qgm (List.getD (List.getD (EC.encL qak t57) (Int.toNat t59) []) 0 C.ne))+(IntKind.wrap .i64 (60*b0_15)))))))]]))+((out+(List.length [[(C.int Go.IntKind.i64 (ite (true=true) (ite ((qgm (List.getD (List.getD (EC.encL qak t57) (Int.toNat t59) []) 0 C.ne))<from_) from_ (qgm (List.getD (List.getD (EC.encL qak t57) (Int.toNat t59) []) 0 C.ne))) (ite (from_<(qgm (List.getD (List.getD (EC.encL qak t57) (Int.toNat t59) []) 0 C.ne))) from_ (qgm (List.getD (List.getD (EC.encL qak t57) (Int.toNat t59) []) 0 C.ne))))),(C.int Go.IntKind.i64 (ite (false=true) (ite ((IntKind.wrap .i64 ((qgm (List.getD (List.getD (EC.encL qak t57) (Int.toNat t59) []) 0 C.ne))+(IntKind.wrap .i64 (60*b0_15))))<to_) to_ (IntKind.wrap .i64 ((qgm (List.getD (List.getD (EC.encL qak t57) (Int.toNat t59) []) 0 C.ne))+(IntKind.wrap .i64 (60*b0_15))))) (ite (to_<(IntKind.wrap .i64 ((qgm (List.getD (List.getD (EC.encL qak t57) (Int.toNat t59) []) 0 C.ne))+(IntKind.wrap .i64 (60*b0_15))))) to_ (IntKind.wrap .i64 ((qgm (List.getD (List.getD (EC.encL qak t57) (Int.toNat t59) []) 0 C.ne))+(IntKind.wrap .i64 (60*b0_15)))))))]])) / 4))+192)*16)≤281474976710656)))&&(decide ((out+(List.length [[(C.int Go.IntKind.i64 (ite (true=true) (ite ((qgm (List.getD (List.getD (EC.encL qak t57) (Int.toNat t59) []) 0 C.ne))<from_) from_ (qgm (List.getD (List.getD (EC.encL qak t57) (Int.toNat t59) []) 0 C.ne))) (ite (from_<(qgm (List.getD (List.getD (EC.encL qak t57) (Int.toNat t59) []) 0 C.ne))) from_ (qgm (List.getD (List.getD (EC.encL qak t57) (Int.toNat t59) []) 0 C.ne))))),(C.int Go.IntKind.i64 (ite (false=true) (ite ((IntKind.wrap .i64 ((qgm (List.getD (List.getD (EC.encL qak t57) (Int.toNat t59) []) 0 C.ne))+(IntKind.wrap .i64 (60*b0_15))))<to_) to_ (IntKind.wrap .i64 ((qgm (List.getD (List.getD (EC.encL qak t57) (Int.toNat t59) []) 0 C.ne))+(IntKind.wrap .i64 (60*b0_15))))) (ite (to_<(IntKind.wrap .i64 ((qgm (List.getD (List.getD (EC.encL qak t57) (Int.toNat t59) []) 0 C.ne))+(IntKind.wrap .i64 (60*b0_15))))) to_ (IntKind.wrap .i64 ((qgm (List.getD (List.getD (EC.encL qak t57) (Int.toNat t59) []) 0 C.ne))+(IntKind.wrap .i64 (60*b0_15)))))))]]))≤9223372036854775807)))<|
 (gdE (EC.isL qak (EC.encL qak t57))<|
 (gdE (EC.isL qaj (EC.encL qaj b0_6))<|
 (gdE (EC.isL qak (EC.encL qak b0_21))<|
 (gdE (EC.isL qak (EC.encL qak b0_22))<|
 (gdE (EC.isL qak (EC.encL qak b0_23))<|
 (gdE (EC.isL qan ((EC.encL qan b1)++[[(C.int Go.IntKind.i64 (ite (true=true) (ite ((qgm (List.getD (List.getD (EC.encL qak t57) (Int.toNat t59) []) 0 C.ne))<from_) from_ (qgm (List.getD (List.getD (EC.encL qak t57) (Int.toNat t59) []) 0 C.ne))) (ite (from_<(qgm (List.getD (List.getD (EC.encL qak t57) (Int.toNat t59) []) 0 C.ne))) from_ (qgm (List.getD (List.getD (EC.encL qak t57) (Int.toNat t59) []) 0 C.ne))))),(C.int Go.IntKind.i64 (ite (false=true) (ite ((IntKind.wrap .i64 ((qgm (List.getD (List.getD (EC.encL qak t57) (Int.toNat t59) []) 0 C.ne))+(IntKind.wrap .i64 (60*b0_15))))<to_) to_ (IntKind.wrap .i64 ((qgm (List.getD (List.getD (EC.encL qak t57) (Int.toNat t59) []) 0 C.ne))+(IntKind.wrap .i64 (60*b0_15))))) (ite (to_<(IntKind.wrap .i64 ((qgm (List.getD (List.getD (EC.encL qak t57) (Int.toNat t59) []) 0 C.ne))+(IntKind.wrap .i64 (60*b0_15))))) to_ (IntKind.wrap .i64 ((qgm (List.getD (List.getD (EC.encL qak t57) (Int.toNat t59) []) 0 C.ne))+(IntKind.wrap .i64 (60*b0_15)))))))]]))<|
 (qbl from_ to_ (out+(List.length [[(C.int Go.IntKind.i64 (ite (true=true) (ite ((qgm (List.getD (List.getD (EC.encL qak t57) (Int.toNat t59) []) 0 C.ne))<from_) from_ (qgm (List.getD (List.getD (EC.encL qak t57) (Int.toNat t59) []) 0 C.ne))) (ite (from_<(qgm (List.getD (List.getD (EC.encL qak t57) (Int.toNat t59) []) 0 C.ne))) from_ (qgm (List.getD (List.getD (EC.encL qak t57) (Int.toNat t59) []) 0 C.ne))))),(C.int Go.IntKind.i64 (ite (false=true) (ite ((IntKind.wrap .i64 ((qgm (List.getD (List.getD (EC.encL qak t57) (Int.toNat t59) []) 0 C.ne))+(IntKind.wrap .i64 (60*b0_15))))<to_) to_ (IntKind.wrap .i64 ((qgm (List.getD (List.getD (EC.encL qak t57) (Int.toNat t59) []) 0 C.ne))+(IntKind.wrap .i64 (60*b0_15))))) (ite (to_<(IntKind.wrap .i64 ((qgm (List.getD (List.getD (EC.encL qak t57) (Int.toNat t59) []) 0 C.ne))+(IntKind.wrap .i64 (60*b0_15))))) to_ (IntKind.wrap .i64 ((qgm (List.getD (List.getD (EC.encL qak t57) (Int.toNat t59) []) 0 C.ne))+(IntKind.wrap .i64 (60*b0_15)))))))]])) (EC.decL qak (EC.encL qak t57)) t58 (IntKind.wrap .i64 (t59+1)) b0 b0_1 b0_2 b0_3 b0_4 b0_5 (EC.decL qaj (EC.encL qaj b0_6)) b0_7 b0_8 b0_9 b0_10 b0_11 b0_12 b0_13 b0_14 b0_15 b0_16 b0_17 b0_18 b0_19 b0_20 (EC.decL qak (EC.encL qak b0_21)) (EC.decL qak (EC.encL qak b0_22)) (EC.decL qak (EC.encL qak b0_23)) (EC.decL qan ((EC.encL qan b1)++[[(C.int Go.IntKind.i64 (ite (true=true) (ite ((qgm (List.getD (List.getD (EC.encL qak t57) (Int.toNat t59) []) 0 C.ne))<from_) from_ (qgm (List.getD (List.getD (EC.encL qak t57) (Int.toNat t59) []) 0 C.ne))) (ite (from_<(qgm (List.getD (List.getD (EC.encL qak t57) (Int.toNat t59) []) 0 C.ne))) from_ (qgm (List.getD (List.getD (EC.encL qak t57) (Int.toNat t59) []) 0 C.ne))))),(C.int Go.IntKind.i64 (ite (false=true) (ite ((IntKind.wrap .i64 ((qgm (List.getD (List.getD (EC.encL qak t57) (Int.toNat t59) []) 0 C.ne))+(IntKind.wrap .i64 (60*b0_15))))<to_) to_ (IntKind.wrap .i64 ((qgm (List.getD (List.getD (EC.encL qak t57) (Int.toNat t59) []) 0 C.ne))+(IntKind.wrap .i64 (60*b0_15))))) (ite (to_<(IntKind.wrap .i64 ((qgm (List.getD (List.getD (EC.encL qak t57) (Int.toNat t59) []) 0 C.ne))+(IntKind.wrap .i64 (60*b0_15))))) to_ (IntKind.wrap .i64 ((qgm (List.getD (List.getD (EC.encL qak t57) (Int.toNat t59) []) 0 C.ne))+(IntKind.wrap .i64 (60*b0_15)))))))]]))))))))))))
 (gdE (EC.isL qak (EC.encL qak t57))<|
 (gdE (EC.isL qaj (EC.encL qaj b0_6))<|
 (gdE (EC.isL qak (EC.encL qak b0_21))<|
 (gdE (EC.isL qak (EC.encL qak b0_22))<|
 (gdE (EC.isL qak (EC.encL qak b0_23))<|
 (gdE (EC.isL qan (EC.encL qan b1))<|
 (some ((from_,(to_,((),(out,((EC.decL qak (EC.encL qak t57)),(t58,(t59,false))))))),((b0,(b0_1,(b0_2,(b0_3,(b0_4,(b0_5,((EC.decL qaj (EC.encL qaj b0_6)),(b0_7,(b0_8,(b0_9,(b0_10,(b0_11,(b0_12,(b0_13,(b0_14,(b0_15,(b0_16,(b0_17,(b0_18,(b0_19,(b0_20,((EC.decL qak (EC.encL qak b0_21)),((EC.decL qak (EC.encL qak b0_22)),(EC.decL qak (EC.encL qak b0_23))))))))))))))))))))))))),(EC.decL qan (EC.encL qan b1))))))))))))
theorem qbn {from_ to_ out t57 t58 t59 b0 b0_1 b0_2 b0_3 b0_4 b0_5 b0_6 b0_7 b0_8 b0_9 b0_10 b0_11 b0_12 b0_13 b0_14 b0_15 b0_16 b0_17 b0_18 b0_19 b0_20 b0_21 b0_22 b0_23 b1 r} (h:qbr from_ to_ out t57 t58 t59 b0 b0_1 b0_2 b0_3 b0_4 b0_5 b0_6 b0_7 b0_8 b0_9 b0_10 b0_11 b0_12 b0_13 b0_14 b0_15 b0_16 b0_17 b0_18 b0_19 b0_20 b0_21 b0_22 b0_23 b1=some r):qbl from_ to_ out t57 t58 t59 b0 b0_1 b0_2 b0_3 b0_4 b0_5 b0_6 b0_7 b0_8 b0_9 b0_10 b0_11 b0_12 b0_13 b0_14 b0_15 b0_16 b0_17 b0_18 b0_19 b0_20 b0_21 b0_22 b0_23 b1=some r :=
 qhp (es:=qv0) (hs:=[]) [] (by kernel_rfl) trivial trivial (by kernel_rfl) h
def qbm:=qj2 Tryz.prog lv X1 11 (qfp (cdF Tryz.f16) 11) qbq qbo (fun x=>qbl x.1.1 x.1.2.1 x.1.2.2.2.1 x.1.2.2.2.2.1 x.1.2.2.2.2.2.1 x.1.2.2.2.2.2.2 x.2.1.1 x.2.1.2.1 x.2.1.2.2.1 x.2.1.2.2.2.1 x.2.1.2.2.2.2.1 x.2.1.2.2.2.2.2.1 x.2.1.2.2.2.2.2.2.1 x.2.1.2.2.2.2.2.2.2.1 x.2.1.2.2.2.2.2.2.2.2.1 x.2.1.2.2.2.2.2.2.2.2.2.1 x.2.1.2.2.2.2.2.2.2.2.2.2.1 x.2.1.2.2.2.2.2.2.2.2.2.2.2.1 x.2.1.2.2.2.2.2.2.2.2.2.2.2.2.1 x.2.1.2.2.2.2.2.2.2.2.2.2.2.2.2.1 x.2.1.2.2.2.2.2.2.2.2.2.2.2.2.2.2.1 x.2.1.2.2.2.2.2.2.2.2.2.2.2.2.2.2.2.1 x.2.1.2.2.2.2.2.2.2.2.2.2.2.2.2.2.2.2.1 x.2.1.2.2.2.2.2.2.2.2.2.2.2.2.2.2.2.2.2.1 x.2.1.2.2.2.2.2.2.2.2.2.2.2.2.2.2.2.2.2.2.1 x.2.1.2.2.2.2.2.2.2.2.2.2.2.2.2.2.2.2.2.2.2.1 x.2.1.2.2.2.2.2.2.2.2.2.2.2.2.2.2.2.2.2.2.2.2.1 x.2.1.2.2.2.2.2.2.2.2.2.2.2.2.2.2.2.2.2.2.2.2.2.1 x.2.1.2.2.2.2.2.2.2.2.2.2.2.2.2.2.2.2.2.2.2.2.2.2.1 x.2.1.2.2.2.2.2.2.2.2.2.2.2.2.2.2.2.2.2.2.2.2.2.2.2 x.2.2) (fun _ _ h=>qho h)
def evt_cr:Cod (V×List B) ((Nat×Int)×(List S47)):=(cPair (vTup (qhl (vRow 0) (qhn (vC (cInt .i64))))) (qhn (bRow qan)))
def evt_s (e_Uid:ByteArray) (e_Method:Int) (e_Sequence:Int) (e_Summary:ByteArray) (e_Place:ByteArray) (e_Organizer:ByteArray) (e_Guests:(List S152)) (e_Zone:ByteArray) (e_Start_Year:Int) (e_Start_Month:Int) (e_Start_Day:Int) (e_Start_Hour:Int) (e_Start_Minute:Int) (e_Start_Second:Int) (e_Start_Zone:Int) (e_Length:Int) (e_Repeat_Frequency:Int) (e_Repeat_Every:Int) (e_Repeat_Count:Int) (e_Repeat_Until:Int) (e_Repeat_HasUntil:Bool) (e_Repeat_Weekdays:(List Int)) (e_Repeat_Except:(List Int)) (e_Repeat_Add:(List Int)) (l:(List S34)) (from_:Int) (to_:Int):Option ((Nat×Int)×(List S47)):=fS Tryz.prog lv X1 16 evt_ca evt_cr ((e_Uid,e_Method,e_Sequence,e_Summary,e_Place,e_Organizer,e_Guests,e_Zone,e_Start_Year,e_Start_Month,e_Start_Day,e_Start_Hour,e_Start_Minute,e_Start_Second,e_Start_Zone,e_Length,e_Repeat_Frequency,e_Repeat_Every,e_Repeat_Count,e_Repeat_Until,e_Repeat_HasUntil,e_Repeat_Weekdays,e_Repeat_Except,e_Repeat_Add),l,from_,to_)
def evt_t (e_Uid:ByteArray) (e_Method:Int) (e_Sequence:Int) (e_Summary:ByteArray) (e_Place:ByteArray) (e_Organizer:ByteArray) (e_Guests:(List S152)) (e_Zone:ByteArray) (e_Start_Year:Int) (e_Start_Month:Int) (e_Start_Day:Int) (e_Start_Hour:Int) (e_Start_Minute:Int) (e_Start_Second:Int) (e_Start_Zone:Int) (e_Length:Int) (e_Repeat_Frequency:Int) (e_Repeat_Every:Int) (e_Repeat_Count:Int) (e_Repeat_Until:Int) (e_Repeat_HasUntil:Bool) (e_Repeat_Weekdays:(List Int)) (e_Repeat_Except:(List Int)) (e_Repeat_Add:(List Int)) (l:(List S34)) (from_:Int) (to_:Int):Option ((Nat×Int)×(List S47)) :=
 (gdE (EC.isL qal (EC.encL qal l))<|
 (gdE (EC.isL qaj (EC.encL qaj e_Guests))<|
 (gdE (EC.isL qak (EC.encL qak e_Repeat_Weekdays))<|
 (gdE (EC.isL qak (EC.encL qak e_Repeat_Except))<|
 (gdE (EC.isL qak (EC.encL qak e_Repeat_Add))<|
 ((idxZ_s (EC.decL qal (EC.encL qal l)) e_Uid e_Method e_Sequence e_Summary e_Place e_Organizer (EC.decL qaj (EC.encL qaj e_Guests)) e_Zone e_Start_Year e_Start_Month e_Start_Day e_Start_Hour e_Start_Minute e_Start_Second e_Start_Zone e_Length e_Repeat_Frequency e_Repeat_Every e_Repeat_Count e_Repeat_Until e_Repeat_HasUntil (EC.decL qak (EC.encL qak e_Repeat_Weekdays)) (EC.decL qak (EC.encL qak e_Repeat_Except)) (EC.decL qak (EC.encL qak e_Repeat_Add))).bind fun r0 =>
 (brE (decide (r0<0))
 (some ((0,6),(EC.decL qan [])))
 (brE ((decide (e_Length<0))==false)
 (brE (decide (e_Length>1000000))
 (some ((0,3),(EC.decL qan [])))
 (gdE (decide (0≤r0))<|
 (gdE ((decide ((Int.toNat r0)<(List.length (EC.encL qal l))))&&(isE [K1.str,(K1.int Go.IntKind.i64),(K1.int Go.IntKind.i64),(K1.int Go.IntKind.i64),(K1.int Go.IntKind.i64),(K1.int Go.IntKind.i64),(K1.int Go.IntKind.i64),(K1.int Go.IntKind.i64),(K1.int Go.IntKind.i64),(K1.int Go.IntKind.i64),(K1.int Go.IntKind.i64)] 0 (List.getD (EC.encL qal l) (Int.toNat r0) [])))<|
 (gdE (EC.isL qak (EC.encL qak e_Repeat_Weekdays))<|
 (gdE (EC.isL qak (EC.encL qak e_Repeat_Except))<|
 (gdE (EC.isL qak (EC.encL qak e_Repeat_Add))<|
 (Option.bind (betS ((qtz (List.getD (List.getD (EC.encL qal l) (Int.toNat r0) []) 0 C.ne)),((qgm (List.getD (List.getD (EC.encL qal l) (Int.toNat r0) []) 1 C.ne)),((qgm (List.getD (List.getD (EC.encL qal l) (Int.toNat r0) []) 2 C.ne)),((qgm (List.getD (List.getD (EC.encL qal l) (Int.toNat r0) []) 3 C.ne)),((qgm (List.getD (List.getD (EC.encL qal l) (Int.toNat r0) []) 4 C.ne)),((qgm (List.getD (List.getD (EC.encL qal l) (Int.toNat r0) []) 5 C.ne)),((qgm (List.getD (List.getD (EC.encL qal l) (Int.toNat r0) []) 6 C.ne)),((qgm (List.getD (List.getD (EC.encL qal l) (Int.toNat r0) []) 7 C.ne)),((qgm (List.getD (List.getD (EC.encL qal l) (Int.toNat r0) []) 8 C.ne)),((qgm (List.getD (List.getD (EC.encL qal l) (Int.toNat r0) []) 9 C.ne)),(qgm (List.getD (List.getD (EC.encL qal l) (Int.toNat r0) []) 10 C.ne)))))))))))) (e_Start_Year,(e_Start_Month,(e_Start_Day,(e_Start_Hour,(e_Start_Minute,(e_Start_Second,e_Start_Zone)))))) (e_Repeat_Frequency,(e_Repeat_Every,(e_Repeat_Count,(e_Repeat_Until,(e_Repeat_HasUntil,((EC.decL qak (EC.encL qak e_Repeat_Weekdays)),((EC.decL qak (EC.encL qak e_Repeat_Except)),(EC.decL qak (EC.encL qak e_Repeat_Add))))))))) (ite (true=true) (ite ((IntKind.wrap .i64 (from_ - (IntKind.wrap .i64 (60*e_Length))))<(-68719476736)) (-68719476736) (IntKind.wrap .i64 (from_ - (IntKind.wrap .i64 (60*e_Length))))) (ite ((-68719476736)<(IntKind.wrap .i64 (from_ - (IntKind.wrap .i64 (60*e_Length))))) (-68719476736) (IntKind.wrap .i64 (from_ - (IntKind.wrap .i64 (60*e_Length)))))) to_) fun r1 =>
 ((q3e r1.2.1 r1.2.2).bind fun r2 =>
 (brE (r2==false)
 (brE (e_Method==4)
 (some ((0,r1.2.1),(EC.decL qan [])))
 (gdE (EC.isL qak (EC.encL qak r1.1))<|
 (gdE (EC.isL qaj (EC.encL qaj e_Guests))<|
 (gdE (EC.isL qak (EC.encL qak e_Repeat_Weekdays))<|
 (gdE (EC.isL qak (EC.encL qak e_Repeat_Except))<|
 (gdE (EC.isL qak (EC.encL qak e_Repeat_Add))<|
 ((qbl from_ to_ 0 (EC.decL qak (EC.encL qak r1.1)) (((List.length (EC.encL qak r1.1)):Nat):Int) 0 e_Uid e_Method e_Sequence e_Summary e_Place e_Organizer (EC.decL qaj (EC.encL qaj e_Guests)) e_Zone e_Start_Year e_Start_Month e_Start_Day e_Start_Hour e_Start_Minute e_Start_Second e_Start_Zone e_Length e_Repeat_Frequency e_Repeat_Every e_Repeat_Count e_Repeat_Until e_Repeat_HasUntil (EC.decL qak (EC.encL qak e_Repeat_Weekdays)) (EC.decL qak (EC.encL qak e_Repeat_Except)) (EC.decL qak (EC.encL qak e_Repeat_Add)) (EC.decL qan [])).bind fun r3 =>
 (gdE (EC.isL qan (EC.encL qan r3.2.2))<|
 (some ((r3.1.2.2.2.1,0),(EC.decL qan (EC.encL qan r3.2.2))))))))))))
 (some ((0,r1.2.1),(EC.decL qan []))))))))))))
 (some ((0,3),(EC.decL qan [])))))))))))
theorem evt_eq {e_Uid e_Method e_Sequence e_Summary e_Place e_Organizer e_Guests e_Zone e_Start_Year e_Start_Month e_Start_Day e_Start_Hour e_Start_Minute e_Start_Second e_Start_Zone e_Length e_Repeat_Frequency e_Repeat_Every e_Repeat_Count e_Repeat_Until e_Repeat_HasUntil e_Repeat_Weekdays e_Repeat_Except e_Repeat_Add l from_ to_ r} (h:evt_t e_Uid e_Method e_Sequence e_Summary e_Place e_Organizer e_Guests e_Zone e_Start_Year e_Start_Month e_Start_Day e_Start_Hour e_Start_Minute e_Start_Second e_Start_Zone e_Length e_Repeat_Frequency e_Repeat_Every e_Repeat_Count e_Repeat_Until e_Repeat_HasUntil e_Repeat_Weekdays e_Repeat_Except e_Repeat_Add l from_ to_=some r):evt_s e_Uid e_Method e_Sequence e_Summary e_Place e_Organizer e_Guests e_Zone e_Start_Year e_Start_Month e_Start_Day e_Start_Hour e_Start_Minute e_Start_Second e_Start_Zone e_Length e_Repeat_Frequency e_Repeat_Every e_Repeat_Count e_Repeat_Until e_Repeat_HasUntil e_Repeat_Weekdays e_Repeat_Except e_Repeat_Add l from_ to_=some r :=
 qbx (es:=qv0) (hs:=[]) [qbm] Tryz.func16 rfl (by kernel_rfl) rfl (by kernel_rfl) (by kernel_rfl) ⟨⟨_,rfl,rfl⟩,trivial⟩ trivial (by kernel_rfl) h
def evt_e:=entS Tryz.prog lv X1 16 [] evt_ca evt_cr (fun x=>evt_s x.1.1 x.1.2.1 x.1.2.2.1 x.1.2.2.2.1 x.1.2.2.2.2.1 x.1.2.2.2.2.2.1 x.1.2.2.2.2.2.2.1 x.1.2.2.2.2.2.2.2.1 x.1.2.2.2.2.2.2.2.2.1 x.1.2.2.2.2.2.2.2.2.2.1 x.1.2.2.2.2.2.2.2.2.2.2.1 x.1.2.2.2.2.2.2.2.2.2.2.2.1 x.1.2.2.2.2.2.2.2.2.2.2.2.2.1 x.1.2.2.2.2.2.2.2.2.2.2.2.2.2.1 x.1.2.2.2.2.2.2.2.2.2.2.2.2.2.2.1 x.1.2.2.2.2.2.2.2.2.2.2.2.2.2.2.2.1 x.1.2.2.2.2.2.2.2.2.2.2.2.2.2.2.2.2.1 x.1.2.2.2.2.2.2.2.2.2.2.2.2.2.2.2.2.2.1 x.1.2.2.2.2.2.2.2.2.2.2.2.2.2.2.2.2.2.2.1 x.1.2.2.2.2.2.2.2.2.2.2.2.2.2.2.2.2.2.2.2.1 x.1.2.2.2.2.2.2.2.2.2.2.2.2.2.2.2.2.2.2.2.2.1 x.1.2.2.2.2.2.2.2.2.2.2.2.2.2.2.2.2.2.2.2.2.2.1 x.1.2.2.2.2.2.2.2.2.2.2.2.2.2.2.2.2.2.2.2.2.2.2.1 x.1.2.2.2.2.2.2.2.2.2.2.2.2.2.2.2.2.2.2.2.2.2.2.2 x.2.1 x.2.2.1 x.2.2.2) (fun _ _ h=>qbw h)
def qur:=evt_e::qv0
structure S42 where
 Uid:ByteArray
 Method:Int
 Sequence:Int
 Summary:ByteArray
 Place:ByteArray
 Organizer:ByteArray
 Guests:(List S152)
 Zone:ByteArray
 Start_Year:Int
 Start_Month:Int
 Start_Day:Int
 Start_Hour:Int
 Start_Minute:Int
 Start_Second:Int
 Start_Zone:Int
 Length:Int
 Repeat_Frequency:Int
 Repeat_Every:Int
 Repeat_Count:Int
 Repeat_Until:Int
 Repeat_HasUntil:Bool
 Repeat_Weekdays:(List Int)
 Repeat_Except:(List Int)
 Repeat_Add:(List Int)
def qam:EC S42 where
 enc x:=[.str x.Uid,.int .i64 x.Method,.int .i64 x.Sequence,.str x.Summary,.str x.Place,.str x.Organizer,.sl (qaj.encL x.Guests),.str x.Zone,.int .i64 x.Start_Year,.int .i64 x.Start_Month,.int .i64 x.Start_Day,.int .i64 x.Start_Hour,.int .i64 x.Start_Minute,.int .i64 x.Start_Second,.int .i64 x.Start_Zone,.int .i64 x.Length,.int .i64 x.Repeat_Frequency,.int .i64 x.Repeat_Every,.int .i64 x.Repeat_Count,.int .i64 x.Repeat_Until,.bool x.Repeat_HasUntil,.sl (qak.encL x.Repeat_Weekdays),.sl (qak.encL x.Repeat_Except),.sl (qak.encL x.Repeat_Add)]
 dec c:=⟨qtz (c.getD 0 .ne),qgm (c.getD 1 .ne),qgm (c.getD 2 .ne),qtz (c.getD 3 .ne),qtz (c.getD 4 .ne),qtz (c.getD 5 .ne),qaj.decL (slOf (c.getD 6 .ne)),qtz (c.getD 7 .ne),qgm (c.getD 8 .ne),qgm (c.getD 9 .ne),qgm (c.getD 10 .ne),qgm (c.getD 11 .ne),qgm (c.getD 12 .ne),qgm (c.getD 13 .ne),qgm (c.getD 14 .ne),qgm (c.getD 15 .ne),qgm (c.getD 16 .ne),qgm (c.getD 17 .ne),qgm (c.getD 18 .ne),qgm (c.getD 19 .ne),q5l (c.getD 20 .ne),qak.decL (slOf (c.getD 21 .ne)),qak.decL (slOf (c.getD 22 .ne)),qak.decL (slOf (c.getD 23 .ne))⟩
 is c:=isE [.str,.int .i64,.int .i64,.str,.str,.str,.sl,.str,.int .i64,.int .i64,.int .i64,.int .i64,.int .i64,.int .i64,.int .i64,.int .i64,.int .i64,.int .i64,.int .i64,.int .i64,.bool,.sl,.sl,.sl] 0 c&&qaj.isL (slOf (c.getD 6 .ne))&&qak.isL (slOf (c.getD 21 .ne))&&qak.isL (slOf (c.getD 22 .ne))&&qak.isL (slOf (c.getD 23 .ne))
 enc_dec h:=by
  simp only [Bool.and_eq_true] at h
  have h0:=q9c h.1.1.1.1
  simp only [decE,decC] at h0
  simp only [EC.encL_decL _ h.1.1.1.2,EC.encL_decL _ h.1.1.2,EC.encL_decL _ h.1.2,EC.encL_decL _ h.2]
  exact h0
 dec_enc x:=by simp [qtz,qgm,q5l,slOf]
 is_enc x:=by simp [isE,isK,slOf]
theorem qat (x:S42):qam.enc x=[.str x.Uid,.int .i64 x.Method,.int .i64 x.Sequence,.str x.Summary,.str x.Place,.str x.Organizer,.sl (qaj.encL x.Guests),.str x.Zone,.int .i64 x.Start_Year,.int .i64 x.Start_Month,.int .i64 x.Start_Day,.int .i64 x.Start_Hour,.int .i64 x.Start_Minute,.int .i64 x.Start_Second,.int .i64 x.Start_Zone,.int .i64 x.Length,.int .i64 x.Repeat_Frequency,.int .i64 x.Repeat_Every,.int .i64 x.Repeat_Count,.int .i64 x.Repeat_Until,.bool x.Repeat_HasUntil,.sl (qak.encL x.Repeat_Weekdays),.sl (qak.encL x.Repeat_Except),.sl (qak.encL x.Repeat_Add)]:=rfl
theorem qgx (xs:List S42) (n:Nat):isE [.str,.int .i64,.int .i64,.str,.str,.str,.sl,.str,.int .i64,.int .i64,.int .i64,.int .i64,.int .i64,.int .i64,.int .i64,.int .i64,.int .i64,.int .i64,.int .i64,.int .i64,.bool,.sl,.sl,.sl] 0 ((qam.encL xs).getD n [])=decide (n<xs.length):=by
 by_cases h:n<xs.length
 ·simp only [EC.getD_lt _ _ h];simp [qat,isE,isK,h]
 ·simp only [EC.getD_ge _ _ (Nat.not_lt.1 h)];simp [isE,isK,h]
theorem q2j (xs:List S42) (n:Nat):qtz (((qam.encL xs).getD n []).getD 0 .ne)=(xs.getD n (qam.dec [])).Uid:=by
 by_cases h:n<xs.length
 ·simp only [EC.getD_lt _ _ h];simp [qat,h,qtz,List.getD_eq_getElem?_getD]
 ·simp only [EC.getD_ge _ _ (Nat.not_lt.1 h)];simp [Nat.not_lt.1 h,qam,qtz,qgm,q5l,slOf,List.getD_eq_getElem?_getD,EC.decL,EC.encL]
theorem q2k (xs:List S42) (n:Nat):qgm (((qam.encL xs).getD n []).getD 1 .ne)=(xs.getD n (qam.dec [])).Method:=by
 by_cases h:n<xs.length
 ·simp only [EC.getD_lt _ _ h];simp [qat,h,qgm,List.getD_eq_getElem?_getD]
 ·simp only [EC.getD_ge _ _ (Nat.not_lt.1 h)];simp [Nat.not_lt.1 h,qam,qtz,qgm,q5l,slOf,List.getD_eq_getElem?_getD,EC.decL,EC.encL]
theorem q2v (xs:List S42) (n:Nat):qgm (((qam.encL xs).getD n []).getD 2 .ne)=(xs.getD n (qam.dec [])).Sequence:=by
 by_cases h:n<xs.length
 ·simp only [EC.getD_lt _ _ h];simp [qat,h,qgm,List.getD_eq_getElem?_getD]
 ·simp only [EC.getD_ge _ _ (Nat.not_lt.1 h)];simp [Nat.not_lt.1 h,qam,qtz,qgm,q5l,slOf,List.getD_eq_getElem?_getD,EC.decL,EC.encL]
theorem q30 (xs:List S42) (n:Nat):qtz (((qam.encL xs).getD n []).getD 3 .ne)=(xs.getD n (qam.dec [])).Summary:=by
 by_cases h:n<xs.length
 ·simp only [EC.getD_lt _ _ h];simp [qat,h,qtz,List.getD_eq_getElem?_getD]
 ·simp only [EC.getD_ge _ _ (Nat.not_lt.1 h)];simp [Nat.not_lt.1 h,qam,qtz,qgm,q5l,slOf,List.getD_eq_getElem?_getD,EC.decL,EC.encL]
theorem q31 (xs:List S42) (n:Nat):qtz (((qam.encL xs).getD n []).getD 4 .ne)=(xs.getD n (qam.dec [])).Place:=by
 by_cases h:n<xs.length
 ·simp only [EC.getD_lt _ _ h];simp [qat,h,qtz,List.getD_eq_getElem?_getD]
 ·simp only [EC.getD_ge _ _ (Nat.not_lt.1 h)];simp [Nat.not_lt.1 h,qam,qtz,qgm,q5l,slOf,List.getD_eq_getElem?_getD,EC.decL,EC.encL]
theorem q32 (xs:List S42) (n:Nat):qtz (((qam.encL xs).getD n []).getD 5 .ne)=(xs.getD n (qam.dec [])).Organizer:=by
 by_cases h:n<xs.length
 ·simp only [EC.getD_lt _ _ h];simp [qat,h,qtz,List.getD_eq_getElem?_getD]
 ·simp only [EC.getD_ge _ _ (Nat.not_lt.1 h)];simp [Nat.not_lt.1 h,qam,qtz,qgm,q5l,slOf,List.getD_eq_getElem?_getD,EC.decL,EC.encL]
theorem q33 (xs:List S42) (n:Nat):slOf (((qam.encL xs).getD n []).getD 6 .ne)=qaj.encL (xs.getD n (qam.dec [])).Guests:=by
 by_cases h:n<xs.length
 ·simp only [EC.getD_lt _ _ h];simp [qat,h,slOf,List.getD_eq_getElem?_getD]
 ·simp only [EC.getD_ge _ _ (Nat.not_lt.1 h)];simp [Nat.not_lt.1 h,qam,qtz,qgm,q5l,slOf,List.getD_eq_getElem?_getD,EC.decL,EC.encL]
theorem q34 (xs:List S42) (n:Nat):qtz (((qam.encL xs).getD n []).getD 7 .ne)=(xs.getD n (qam.dec [])).Zone:=by
 by_cases h:n<xs.length
 ·simp only [EC.getD_lt _ _ h];simp [qat,h,qtz,List.getD_eq_getElem?_getD]
 ·simp only [EC.getD_ge _ _ (Nat.not_lt.1 h)];simp [Nat.not_lt.1 h,qam,qtz,qgm,q5l,slOf,List.getD_eq_getElem?_getD,EC.decL,EC.encL]
theorem q35 (xs:List S42) (n:Nat):qgm (((qam.encL xs).getD n []).getD 8 .ne)=(xs.getD n (qam.dec [])).Start_Year:=by
 by_cases h:n<xs.length
 ·simp only [EC.getD_lt _ _ h];simp [qat,h,qgm,List.getD_eq_getElem?_getD]
 ·simp only [EC.getD_ge _ _ (Nat.not_lt.1 h)];simp [Nat.not_lt.1 h,qam,qtz,qgm,q5l,slOf,List.getD_eq_getElem?_getD,EC.decL,EC.encL]
theorem q36 (xs:List S42) (n:Nat):qgm (((qam.encL xs).getD n []).getD 9 .ne)=(xs.getD n (qam.dec [])).Start_Month:=by
 by_cases h:n<xs.length
 ·simp only [EC.getD_lt _ _ h];simp [qat,h,qgm,List.getD_eq_getElem?_getD]
 ·simp only [EC.getD_ge _ _ (Nat.not_lt.1 h)];simp [Nat.not_lt.1 h,qam,qtz,qgm,q5l,slOf,List.getD_eq_getElem?_getD,EC.decL,EC.encL]
theorem q2l (xs:List S42) (n:Nat):qgm (((qam.encL xs).getD n []).getD 10 .ne)=(xs.getD n (qam.dec [])).Start_Day:=by
 by_cases h:n<xs.length
 ·simp only [EC.getD_lt _ _ h];simp [qat,h,qgm,List.getD_eq_getElem?_getD]
 ·simp only [EC.getD_ge _ _ (Nat.not_lt.1 h)];simp [Nat.not_lt.1 h,qam,qtz,qgm,q5l,slOf,List.getD_eq_getElem?_getD,EC.decL,EC.encL]
theorem q2m (xs:List S42) (n:Nat):qgm (((qam.encL xs).getD n []).getD 11 .ne)=(xs.getD n (qam.dec [])).Start_Hour:=by
 by_cases h:n<xs.length
 ·simp only [EC.getD_lt _ _ h];simp [qat,h,qgm,List.getD_eq_getElem?_getD]
 ·simp only [EC.getD_ge _ _ (Nat.not_lt.1 h)];simp [Nat.not_lt.1 h,qam,qtz,qgm,q5l,slOf,List.getD_eq_getElem?_getD,EC.decL,EC.encL]
theorem q2n (xs:List S42) (n:Nat):qgm (((qam.encL xs).getD n []).getD 12 .ne)=(xs.getD n (qam.dec [])).Start_Minute:=by
 by_cases h:n<xs.length
 ·simp only [EC.getD_lt _ _ h];simp [qat,h,qgm,List.getD_eq_getElem?_getD]
 ·simp only [EC.getD_ge _ _ (Nat.not_lt.1 h)];simp [Nat.not_lt.1 h,qam,qtz,qgm,q5l,slOf,List.getD_eq_getElem?_getD,EC.decL,EC.encL]
theorem q2o (xs:List S42) (n:Nat):qgm (((qam.encL xs).getD n []).getD 13 .ne)=(xs.getD n (qam.dec [])).Start_Second:=by
 by_cases h:n<xs.length
 ·simp only [EC.getD_lt _ _ h];simp [qat,h,qgm,List.getD_eq_getElem?_getD]
 ·simp only [EC.getD_ge _ _ (Nat.not_lt.1 h)];simp [Nat.not_lt.1 h,qam,qtz,qgm,q5l,slOf,List.getD_eq_getElem?_getD,EC.decL,EC.encL]
theorem q2p (xs:List S42) (n:Nat):qgm (((qam.encL xs).getD n []).getD 14 .ne)=(xs.getD n (qam.dec [])).Start_Zone:=by
 by_cases h:n<xs.length
 ·simp only [EC.getD_lt _ _ h];simp [qat,h,qgm,List.getD_eq_getElem?_getD]
 ·simp only [EC.getD_ge _ _ (Nat.not_lt.1 h)];simp [Nat.not_lt.1 h,qam,qtz,qgm,q5l,slOf,List.getD_eq_getElem?_getD,EC.decL,EC.encL]
theorem q2q (xs:List S42) (n:Nat):qgm (((qam.encL xs).getD n []).getD 15 .ne)=(xs.getD n (qam.dec [])).Length:=by
 by_cases h:n<xs.length
 ·simp only [EC.getD_lt _ _ h];simp [qat,h,qgm,List.getD_eq_getElem?_getD]
 ·simp only [EC.getD_ge _ _ (Nat.not_lt.1 h)];simp [Nat.not_lt.1 h,qam,qtz,qgm,q5l,slOf,List.getD_eq_getElem?_getD,EC.decL,EC.encL]
theorem q2r (xs:List S42) (n:Nat):qgm (((qam.encL xs).getD n []).getD 16 .ne)=(xs.getD n (qam.dec [])).Repeat_Frequency:=by
 by_cases h:n<xs.length
 ·simp only [EC.getD_lt _ _ h];simp [qat,h,qgm,List.getD_eq_getElem?_getD]
 ·simp only [EC.getD_ge _ _ (Nat.not_lt.1 h)];simp [Nat.not_lt.1 h,qam,qtz,qgm,q5l,slOf,List.getD_eq_getElem?_getD,EC.decL,EC.encL]
theorem q2s (xs:List S42) (n:Nat):qgm (((qam.encL xs).getD n []).getD 17 .ne)=(xs.getD n (qam.dec [])).Repeat_Every:=by
 by_cases h:n<xs.length
 ·simp only [EC.getD_lt _ _ h];simp [qat,h,qgm,List.getD_eq_getElem?_getD]
 ·simp only [EC.getD_ge _ _ (Nat.not_lt.1 h)];simp [Nat.not_lt.1 h,qam,qtz,qgm,q5l,slOf,List.getD_eq_getElem?_getD,EC.decL,EC.encL]
theorem q2t (xs:List S42) (n:Nat):qgm (((qam.encL xs).getD n []).getD 18 .ne)=(xs.getD n (qam.dec [])).Repeat_Count:=by
 by_cases h:n<xs.length
 ·simp only [EC.getD_lt _ _ h];simp [qat,h,qgm,List.getD_eq_getElem?_getD]
 ·simp only [EC.getD_ge _ _ (Nat.not_lt.1 h)];simp [Nat.not_lt.1 h,qam,qtz,qgm,q5l,slOf,List.getD_eq_getElem?_getD,EC.decL,EC.encL]
theorem q2u (xs:List S42) (n:Nat):qgm (((qam.encL xs).getD n []).getD 19 .ne)=(xs.getD n (qam.dec [])).Repeat_Until:=by
 by_cases h:n<xs.length
 ·simp only [EC.getD_lt _ _ h];simp [qat,h,qgm,List.getD_eq_getElem?_getD]
 ·simp only [EC.getD_ge _ _ (Nat.not_lt.1 h)];simp [Nat.not_lt.1 h,qam,qtz,qgm,q5l,slOf,List.getD_eq_getElem?_getD,EC.decL,EC.encL]
theorem q2w (xs:List S42) (n:Nat):q5l (((qam.encL xs).getD n []).getD 20 .ne)=(xs.getD n (qam.dec [])).Repeat_HasUntil:=by
 by_cases h:n<xs.length
 ·simp only [EC.getD_lt _ _ h];simp [qat,h,q5l,List.getD_eq_getElem?_getD]
 ·simp only [EC.getD_ge _ _ (Nat.not_lt.1 h)];simp [Nat.not_lt.1 h,qam,qtz,qgm,q5l,slOf,List.getD_eq_getElem?_getD,EC.decL,EC.encL]
theorem q2x (xs:List S42) (n:Nat):slOf (((qam.encL xs).getD n []).getD 21 .ne)=qak.encL (xs.getD n (qam.dec [])).Repeat_Weekdays:=by
 by_cases h:n<xs.length
 ·simp only [EC.getD_lt _ _ h];simp [qat,h,slOf,List.getD_eq_getElem?_getD]
 ·simp only [EC.getD_ge _ _ (Nat.not_lt.1 h)];simp [Nat.not_lt.1 h,qam,qtz,qgm,q5l,slOf,List.getD_eq_getElem?_getD,EC.decL,EC.encL]
theorem q2y (xs:List S42) (n:Nat):slOf (((qam.encL xs).getD n []).getD 22 .ne)=qak.encL (xs.getD n (qam.dec [])).Repeat_Except:=by
 by_cases h:n<xs.length
 ·simp only [EC.getD_lt _ _ h];simp [qat,h,slOf,List.getD_eq_getElem?_getD]
 ·simp only [EC.getD_ge _ _ (Nat.not_lt.1 h)];simp [Nat.not_lt.1 h,qam,qtz,qgm,q5l,slOf,List.getD_eq_getElem?_getD,EC.decL,EC.encL]
theorem q2z (xs:List S42) (n:Nat):slOf (((qam.encL xs).getD n []).getD 23 .ne)=qak.encL (xs.getD n (qam.dec [])).Repeat_Add:=by
 by_cases h:n<xs.length
 ·simp only [EC.getD_lt _ _ h];simp [qat,h,slOf,List.getD_eq_getElem?_getD]
 ·simp only [EC.getD_ge _ _ (Nat.not_lt.1 h)];simp [Nat.not_lt.1 h,qam,qtz,qgm,q5l,slOf,List.getD_eq_getElem?_getD,EC.decL,EC.encL]
theorem lit_42 (a0:ByteArray) (a1:Int) (a2:Int) (a3:ByteArray) (a4:ByteArray) (a5:ByteArray) (a6:(List S152)) (a7:ByteArray) (a8:Int) (a9:Int) (a10:Int) (a11:Int) (a12:Int) (a13:Int) (a14:Int) (a15:Int) (a16:Int) (a17:Int) (a18:Int) (a19:Int) (a20:Bool) (a21:(List Int)) (a22:(List Int)) (a23:(List Int)):([.str a0,.int .i64 a1,.int .i64 a2,.str a3,.str a4,.str a5,.sl (qaj.encL a6),.str a7,.int .i64 a8,.int .i64 a9,.int .i64 a10,.int .i64 a11,.int .i64 a12,.int .i64 a13,.int .i64 a14,.int .i64 a15,.int .i64 a16,.int .i64 a17,.int .i64 a18,.int .i64 a19,.bool a20,.sl (qak.encL a21),.sl (qak.encL a22),.sl (qak.encL a23)]:List C)=qam.enc (⟨a0,a1,a2,a3,a4,a5,a6,a7,a8,a9,a10,a11,a12,a13,a14,a15,a16,a17,a18,a19,a20,a21,a22,a23⟩:S42):=rfl
theorem q1z (xs:List S42) (a0:ByteArray) (a1:Int) (a2:Int) (a3:ByteArray) (a4:ByteArray) (a5:ByteArray) (a6:(List S152)) (a7:ByteArray) (a8:Int) (a9:Int) (a10:Int) (a11:Int) (a12:Int) (a13:Int) (a14:Int) (a15:Int) (a16:Int) (a17:Int) (a18:Int) (a19:Int) (a20:Bool) (a21:(List Int)) (a22:(List Int)) (a23:(List Int)):qam.encL xs++[[.str a0,.int .i64 a1,.int .i64 a2,.str a3,.str a4,.str a5,.sl (qaj.encL a6),.str a7,.int .i64 a8,.int .i64 a9,.int .i64 a10,.int .i64 a11,.int .i64 a12,.int .i64 a13,.int .i64 a14,.int .i64 a15,.int .i64 a16,.int .i64 a17,.int .i64 a18,.int .i64 a19,.bool a20,.sl (qak.encL a21),.sl (qak.encL a22),.sl (qak.encL a23)]]=qam.encL (xs++[(⟨a0,a1,a2,a3,a4,a5,a6,a7,a8,a9,a10,a11,a12,a13,a14,a15,a16,a17,a18,a19,a20,a21,a22,a23⟩:S42)]):=by rw [lit_42];simp [EC.encL]
theorem q1n (xs:List S42):(qam.encL xs).all (fun (el:List C)=>el.length==24)=true:=by induction xs with|nil=>rfl|cons x xs ih=>first|(simp [EC.encL,qat];done)|simpa [EC.encL,qat] using ih
theorem qr9 (xs:List S42) (n:Nat) (a0:ByteArray) (a1:Int) (a2:Int) (a3:ByteArray) (a4:ByteArray) (a5:ByteArray) (a6:(List S152)) (a7:ByteArray) (a8:Int) (a9:Int) (a10:Int) (a11:Int) (a12:Int) (a13:Int) (a14:Int) (a15:Int) (a16:Int) (a17:Int) (a18:Int) (a19:Int) (a20:Bool) (a21:(List Int)) (a22:(List Int)) (a23:(List Int)):(qam.encL xs).set n (splice ((qam.encL xs).getD n []) 0 [.str a0,.int .i64 a1,.int .i64 a2,.str a3,.str a4,.str a5,.sl (qaj.encL a6),.str a7,.int .i64 a8,.int .i64 a9,.int .i64 a10,.int .i64 a11,.int .i64 a12,.int .i64 a13,.int .i64 a14,.int .i64 a15,.int .i64 a16,.int .i64 a17,.int .i64 a18,.int .i64 a19,.bool a20,.sl (qak.encL a21),.sl (qak.encL a22),.sl (qak.encL a23)])=qam.encL (xs.set n ({ xs.getD n (qam.dec []) with Uid:=a0,Method:=a1,Sequence:=a2,Summary:=a3,Place:=a4,Organizer:=a5,Guests:=a6,Zone:=a7,Start_Year:=a8,Start_Month:=a9,Start_Day:=a10,Start_Hour:=a11,Start_Minute:=a12,Start_Second:=a13,Start_Zone:=a14,Length:=a15,Repeat_Frequency:=a16,Repeat_Every:=a17,Repeat_Count:=a18,Repeat_Until:=a19,Repeat_HasUntil:=a20,Repeat_Weekdays:=a21,Repeat_Except:=a22,Repeat_Add:=a23 })):=by
 by_cases h:n<xs.length
 ·rw [EC.getD_lt _ _ h];simp [EC.encL,List.map_set,qat,splice]
 ·simp [EC.encL,List.set_eq_of_length_le,Nat.not_lt.1 h]
theorem qr8 (xs:List S42) (n:Nat) (a0:ByteArray):(qam.encL xs).set n (splice ((qam.encL xs).getD n []) 0 [.str a0])=qam.encL (xs.set n ({ xs.getD n (qam.dec []) with Uid:=a0 })):=by
 by_cases h:n<xs.length
 ·rw [EC.getD_lt _ _ h];simp [EC.encL,List.map_set,qat,splice,List.getD_eq_getElem?_getD,h]
 ·simp [EC.encL,List.set_eq_of_length_le,Nat.not_lt.1 h]
theorem qrl (xs:List S42) (n:Nat) (a1:Int):(qam.encL xs).set n (splice ((qam.encL xs).getD n []) 1 [.int .i64 a1])=qam.encL (xs.set n ({ xs.getD n (qam.dec []) with Method:=a1 })):=by
 by_cases h:n<xs.length
 ·rw [EC.getD_lt _ _ h];simp [EC.encL,List.map_set,qat,splice,List.getD_eq_getElem?_getD,h]
 ·simp [EC.encL,List.set_eq_of_length_le,Nat.not_lt.1 h]
theorem qrq (xs:List S42) (n:Nat) (a2:Int):(qam.encL xs).set n (splice ((qam.encL xs).getD n []) 2 [.int .i64 a2])=qam.encL (xs.set n ({ xs.getD n (qam.dec []) with Sequence:=a2 })):=by
 by_cases h:n<xs.length
 ·rw [EC.getD_lt _ _ h];simp [EC.encL,List.map_set,qat,splice,List.getD_eq_getElem?_getD,h]
 ·simp [EC.encL,List.set_eq_of_length_le,Nat.not_lt.1 h]
theorem qrr (xs:List S42) (n:Nat) (a3:ByteArray):(qam.encL xs).set n (splice ((qam.encL xs).getD n []) 3 [.str a3])=qam.encL (xs.set n ({ xs.getD n (qam.dec []) with Summary:=a3 })):=by
 by_cases h:n<xs.length
 ·rw [EC.getD_lt _ _ h];simp [EC.encL,List.map_set,qat,splice,List.getD_eq_getElem?_getD,h]
 ·simp [EC.encL,List.set_eq_of_length_le,Nat.not_lt.1 h]
theorem qrs (xs:List S42) (n:Nat) (a4:ByteArray):(qam.encL xs).set n (splice ((qam.encL xs).getD n []) 4 [.str a4])=qam.encL (xs.set n ({ xs.getD n (qam.dec []) with Place:=a4 })):=by
 by_cases h:n<xs.length
 ·rw [EC.getD_lt _ _ h];simp [EC.encL,List.map_set,qat,splice,List.getD_eq_getElem?_getD,h]
 ·simp [EC.encL,List.set_eq_of_length_le,Nat.not_lt.1 h]
theorem qrt (xs:List S42) (n:Nat) (a5:ByteArray):(qam.encL xs).set n (splice ((qam.encL xs).getD n []) 5 [.str a5])=qam.encL (xs.set n ({ xs.getD n (qam.dec []) with Organizer:=a5 })):=by
 by_cases h:n<xs.length
 ·rw [EC.getD_lt _ _ h];simp [EC.encL,List.map_set,qat,splice,List.getD_eq_getElem?_getD,h]
 ·simp [EC.encL,List.set_eq_of_length_le,Nat.not_lt.1 h]
theorem qru (xs:List S42) (n:Nat) (a6:(List S152)):(qam.encL xs).set n (splice ((qam.encL xs).getD n []) 6 [.sl (qaj.encL a6)])=qam.encL (xs.set n ({ xs.getD n (qam.dec []) with Guests:=a6 })):=by
 by_cases h:n<xs.length
 ·rw [EC.getD_lt _ _ h];simp [EC.encL,List.map_set,qat,splice,List.getD_eq_getElem?_getD,h]
 ·simp [EC.encL,List.set_eq_of_length_le,Nat.not_lt.1 h]
theorem qrv (xs:List S42) (n:Nat) (a7:ByteArray):(qam.encL xs).set n (splice ((qam.encL xs).getD n []) 7 [.str a7])=qam.encL (xs.set n ({ xs.getD n (qam.dec []) with Zone:=a7 })):=by
 by_cases h:n<xs.length
 ·rw [EC.getD_lt _ _ h];simp [EC.encL,List.map_set,qat,splice,List.getD_eq_getElem?_getD,h]
 ·simp [EC.encL,List.set_eq_of_length_le,Nat.not_lt.1 h]
theorem qrx (xs:List S42) (n:Nat) (a8:Int) (a9:Int) (a10:Int) (a11:Int) (a12:Int) (a13:Int) (a14:Int):(qam.encL xs).set n (splice ((qam.encL xs).getD n []) 8 [.int .i64 a8,.int .i64 a9,.int .i64 a10,.int .i64 a11,.int .i64 a12,.int .i64 a13,.int .i64 a14])=qam.encL (xs.set n ({ xs.getD n (qam.dec []) with Start_Year:=a8,Start_Month:=a9,Start_Day:=a10,Start_Hour:=a11,Start_Minute:=a12,Start_Second:=a13,Start_Zone:=a14 })):=by
 by_cases h:n<xs.length
 ·rw [EC.getD_lt _ _ h];simp [EC.encL,List.map_set,qat,splice,List.getD_eq_getElem?_getD,h]
 ·simp [EC.encL,List.set_eq_of_length_le,Nat.not_lt.1 h]
theorem qrw (xs:List S42) (n:Nat) (a8:Int):(qam.encL xs).set n (splice ((qam.encL xs).getD n []) 8 [.int .i64 a8])=qam.encL (xs.set n ({ xs.getD n (qam.dec []) with Start_Year:=a8 })):=by
 by_cases h:n<xs.length
 ·rw [EC.getD_lt _ _ h];simp [EC.encL,List.map_set,qat,splice,List.getD_eq_getElem?_getD,h]
 ·simp [EC.encL,List.set_eq_of_length_le,Nat.not_lt.1 h]
theorem qry (xs:List S42) (n:Nat) (a9:Int):(qam.encL xs).set n (splice ((qam.encL xs).getD n []) 9 [.int .i64 a9])=qam.encL (xs.set n ({ xs.getD n (qam.dec []) with Start_Month:=a9 })):=by
 by_cases h:n<xs.length
 ·rw [EC.getD_lt _ _ h];simp [EC.encL,List.map_set,qat,splice,List.getD_eq_getElem?_getD,h]
 ·simp [EC.encL,List.set_eq_of_length_le,Nat.not_lt.1 h]
theorem qra (xs:List S42) (n:Nat) (a10:Int):(qam.encL xs).set n (splice ((qam.encL xs).getD n []) 10 [.int .i64 a10])=qam.encL (xs.set n ({ xs.getD n (qam.dec []) with Start_Day:=a10 })):=by
 by_cases h:n<xs.length
 ·rw [EC.getD_lt _ _ h];simp [EC.encL,List.map_set,qat,splice,List.getD_eq_getElem?_getD,h]
 ·simp [EC.encL,List.set_eq_of_length_le,Nat.not_lt.1 h]
theorem qrb (xs:List S42) (n:Nat) (a11:Int):(qam.encL xs).set n (splice ((qam.encL xs).getD n []) 11 [.int .i64 a11])=qam.encL (xs.set n ({ xs.getD n (qam.dec []) with Start_Hour:=a11 })):=by
 by_cases h:n<xs.length
 ·rw [EC.getD_lt _ _ h];simp [EC.encL,List.map_set,qat,splice,List.getD_eq_getElem?_getD,h]
 ·simp [EC.encL,List.set_eq_of_length_le,Nat.not_lt.1 h]
theorem qrc (xs:List S42) (n:Nat) (a12:Int):(qam.encL xs).set n (splice ((qam.encL xs).getD n []) 12 [.int .i64 a12])=qam.encL (xs.set n ({ xs.getD n (qam.dec []) with Start_Minute:=a12 })):=by
 by_cases h:n<xs.length
 ·rw [EC.getD_lt _ _ h];simp [EC.encL,List.map_set,qat,splice,List.getD_eq_getElem?_getD,h]
 ·simp [EC.encL,List.set_eq_of_length_le,Nat.not_lt.1 h]
theorem qrd (xs:List S42) (n:Nat) (a13:Int):(qam.encL xs).set n (splice ((qam.encL xs).getD n []) 13 [.int .i64 a13])=qam.encL (xs.set n ({ xs.getD n (qam.dec []) with Start_Second:=a13 })):=by
 by_cases h:n<xs.length
 ·rw [EC.getD_lt _ _ h];simp [EC.encL,List.map_set,qat,splice,List.getD_eq_getElem?_getD,h]
 ·simp [EC.encL,List.set_eq_of_length_le,Nat.not_lt.1 h]
theorem qre (xs:List S42) (n:Nat) (a14:Int):(qam.encL xs).set n (splice ((qam.encL xs).getD n []) 14 [.int .i64 a14])=qam.encL (xs.set n ({ xs.getD n (qam.dec []) with Start_Zone:=a14 })):=by
 by_cases h:n<xs.length
 ·rw [EC.getD_lt _ _ h];simp [EC.encL,List.map_set,qat,splice,List.getD_eq_getElem?_getD,h]
 ·simp [EC.encL,List.set_eq_of_length_le,Nat.not_lt.1 h]
theorem qrf (xs:List S42) (n:Nat) (a15:Int):(qam.encL xs).set n (splice ((qam.encL xs).getD n []) 15 [.int .i64 a15])=qam.encL (xs.set n ({ xs.getD n (qam.dec []) with Length:=a15 })):=by
 by_cases h:n<xs.length
 ·rw [EC.getD_lt _ _ h];simp [EC.encL,List.map_set,qat,splice,List.getD_eq_getElem?_getD,h]
 ·simp [EC.encL,List.set_eq_of_length_le,Nat.not_lt.1 h]
theorem qrh (xs:List S42) (n:Nat) (a16:Int) (a17:Int) (a18:Int) (a19:Int) (a20:Bool) (a21:(List Int)) (a22:(List Int)) (a23:(List Int)):(qam.encL xs).set n (splice ((qam.encL xs).getD n []) 16 [.int .i64 a16,.int .i64 a17,.int .i64 a18,.int .i64 a19,.bool a20,.sl (qak.encL a21),.sl (qak.encL a22),.sl (qak.encL a23)])=qam.encL (xs.set n ({ xs.getD n (qam.dec []) with Repeat_Frequency:=a16,Repeat_Every:=a17,Repeat_Count:=a18,Repeat_Until:=a19,Repeat_HasUntil:=a20,Repeat_Weekdays:=a21,Repeat_Except:=a22,Repeat_Add:=a23 })):=by
 by_cases h:n<xs.length
 ·rw [EC.getD_lt _ _ h];simp [EC.encL,List.map_set,qat,splice,List.getD_eq_getElem?_getD,h]
 ·simp [EC.encL,List.set_eq_of_length_le,Nat.not_lt.1 h]
theorem qrg (xs:List S42) (n:Nat) (a16:Int):(qam.encL xs).set n (splice ((qam.encL xs).getD n []) 16 [.int .i64 a16])=qam.encL (xs.set n ({ xs.getD n (qam.dec []) with Repeat_Frequency:=a16 })):=by
 by_cases h:n<xs.length
 ·rw [EC.getD_lt _ _ h];simp [EC.encL,List.map_set,qat,splice,List.getD_eq_getElem?_getD,h]
 ·simp [EC.encL,List.set_eq_of_length_le,Nat.not_lt.1 h]
theorem qri (xs:List S42) (n:Nat) (a17:Int):(qam.encL xs).set n (splice ((qam.encL xs).getD n []) 17 [.int .i64 a17])=qam.encL (xs.set n ({ xs.getD n (qam.dec []) with Repeat_Every:=a17 })):=by
 by_cases h:n<xs.length
 ·rw [EC.getD_lt _ _ h];simp [EC.encL,List.map_set,qat,splice,List.getD_eq_getElem?_getD,h]
 ·simp [EC.encL,List.set_eq_of_length_le,Nat.not_lt.1 h]
theorem qrj (xs:List S42) (n:Nat) (a18:Int):(qam.encL xs).set n (splice ((qam.encL xs).getD n []) 18 [.int .i64 a18])=qam.encL (xs.set n ({ xs.getD n (qam.dec []) with Repeat_Count:=a18 })):=by
 by_cases h:n<xs.length
 ·rw [EC.getD_lt _ _ h];simp [EC.encL,List.map_set,qat,splice,List.getD_eq_getElem?_getD,h]
 ·simp [EC.encL,List.set_eq_of_length_le,Nat.not_lt.1 h]
theorem qrk (xs:List S42) (n:Nat) (a19:Int):(qam.encL xs).set n (splice ((qam.encL xs).getD n []) 19 [.int .i64 a19])=qam.encL (xs.set n ({ xs.getD n (qam.dec []) with Repeat_Until:=a19 })):=by
 by_cases h:n<xs.length
 ·rw [EC.getD_lt _ _ h];simp [EC.encL,List.map_set,qat,splice,List.getD_eq_getElem?_getD,h]
 ·simp [EC.encL,List.set_eq_of_length_le,Nat.not_lt.1 h]
theorem qrm (xs:List S42) (n:Nat) (a20:Bool):(qam.encL xs).set n (splice ((qam.encL xs).getD n []) 20 [.bool a20])=qam.encL (xs.set n ({ xs.getD n (qam.dec []) with Repeat_HasUntil:=a20 })):=by
 by_cases h:n<xs.length
 ·rw [EC.getD_lt _ _ h];simp [EC.encL,List.map_set,qat,splice,List.getD_eq_getElem?_getD,h]
 ·simp [EC.encL,List.set_eq_of_length_le,Nat.not_lt.1 h]
theorem qrn (xs:List S42) (n:Nat) (a21:(List Int)):(qam.encL xs).set n (splice ((qam.encL xs).getD n []) 21 [.sl (qak.encL a21)])=qam.encL (xs.set n ({ xs.getD n (qam.dec []) with Repeat_Weekdays:=a21 })):=by
 by_cases h:n<xs.length
 ·rw [EC.getD_lt _ _ h];simp [EC.encL,List.map_set,qat,splice,List.getD_eq_getElem?_getD,h]
 ·simp [EC.encL,List.set_eq_of_length_le,Nat.not_lt.1 h]
theorem qro (xs:List S42) (n:Nat) (a22:(List Int)):(qam.encL xs).set n (splice ((qam.encL xs).getD n []) 22 [.sl (qak.encL a22)])=qam.encL (xs.set n ({ xs.getD n (qam.dec []) with Repeat_Except:=a22 })):=by
 by_cases h:n<xs.length
 ·rw [EC.getD_lt _ _ h];simp [EC.encL,List.map_set,qat,splice,List.getD_eq_getElem?_getD,h]
 ·simp [EC.encL,List.set_eq_of_length_le,Nat.not_lt.1 h]
theorem qrp (xs:List S42) (n:Nat) (a23:(List Int)):(qam.encL xs).set n (splice ((qam.encL xs).getD n []) 23 [.sl (qak.encL a23)])=qam.encL (xs.set n ({ xs.getD n (qam.dec []) with Repeat_Add:=a23 })):=by
 by_cases h:n<xs.length
 ·rw [EC.getD_lt _ _ h];simp [EC.encL,List.map_set,qat,splice,List.getD_eq_getElem?_getD,h]
 ·simp [EC.encL,List.set_eq_of_length_le,Nat.not_lt.1 h]
def qc2:=(qhl (vC (cSl qam)) (qhl (vC (cSl qal)) (qhl (vC (cInt .i64)) (qhn (vC (cInt .i64))))))
def qcj:=sLS [0,1,2,3,9,34,35,36] (qhl (vC (cSl qam)) (qhl (vC (cSl qal)) (qhl (vC (cInt .i64)) (qhl (vC (cInt .i64)) (qhl (vPtr 0 0) (qhl (vC (cSl qal)) (qhl (vC (cInt .i64)) (qhn (vC (cInt .i64)))))))))) (qhn (qkg (bBox (qhl (vC (cInt .i64)) (qhn (vC (cInt .i64))))))) [false] [] (by decide) (fun _=>rfl)
def qci:=sLS [0,1,2,3,9,34,35,36,37] (qhl (vC (cSl qam)) (qhl (vC (cSl qal)) (qhl (vC (cInt .i64)) (qhl (vC (cInt .i64)) (qhl (vPtr 0 0) (qhl (vC (cSl qal)) (qhl (vC (cInt .i64)) (qhl (vC (cInt .i64)) (qhn (vC cBool)))))))))) (qhn (qkg (bBox (qhl (vC (cInt .i64)) (qhn (vC (cInt .i64))))))) [false] [] (by decide) (fun _=>rfl)
def qch:=sLS [8,9] (qhl (vRow 0) (qhn (vPtr 1 0))) (qhl (qkg (bRow qan)) (qhn (qkg (bBox (qhl (vC (cInt .i64)) (qhn (vC (cInt .i64)))))))) [false,false] [] (by decide) (fun _=>rfl)
def qcg:=oOr 1 qch (oAt 2 qci) (fun x=>(by decide:(2:Nat)≠1))
def qcd (events:(List S42)) (zone:(List S34)) (from_:Int) (to_:Int) (t34:(List S34)) (t35:Int) (t36:Int) (b0:Int) (b0_1:Int):Option (((Nat×Unit)×((List S47)×(Int×Int)))⊕(((List S42)×(List S34)×Int×Int×Unit×(List S34)×Int×Int×Bool)×(Int×Int))):=lS Tryz.prog lv X1 4 78 (qfp (cdF Tryz.f4) 7) qcj qcg ((events,zone,from_,to_,(),t34,t35,t36),(b0,b0_1))
def qck (events:(List S42)) (zone:(List S34)) (from_:Int) (to_:Int) (t34:(List S34)) (t35:Int) (t36:Int) (b0:Int) (b0_1:Int):Option (((Nat×Unit)×((List S47)×(Int×Int)))⊕(((List S42)×(List S34)×Int×Int×Unit×(List S34)×Int×Int×Bool)×(Int×Int))) :=
 (brE (decide (t36<t35))
 (gdE (decide (0≤t36))<|
 (gdE ((decide ((Int.toNat t36)<(List.length (EC.encL qal t34))))&&(isE [K1.str,(K1.int Go.IntKind.i64),(K1.int Go.IntKind.i64),(K1.int Go.IntKind.i64),(K1.int Go.IntKind.i64),(K1.int Go.IntKind.i64),(K1.int Go.IntKind.i64),(K1.int Go.IntKind.i64),(K1.int Go.IntKind.i64),(K1.int Go.IntKind.i64),(K1.int Go.IntKind.i64)] 0 (List.getD (EC.encL qal t34) (Int.toNat t36) [])))<|
 (Option.bind (pZval ((qtz (List.getD (List.getD (EC.encL qal t34) (Int.toNat t36) []) 0 C.ne)),((qgm (List.getD (List.getD (EC.encL qal t34) (Int.toNat t36) []) 1 C.ne)),((qgm (List.getD (List.getD (EC.encL qal t34) (Int.toNat t36) []) 2 C.ne)),((qgm (List.getD (List.getD (EC.encL qal t34) (Int.toNat t36) []) 3 C.ne)),((qgm (List.getD (List.getD (EC.encL qal t34) (Int.toNat t36) []) 4 C.ne)),((qgm (List.getD (List.getD (EC.encL qal t34) (Int.toNat t36) []) 5 C.ne)),((qgm (List.getD (List.getD (EC.encL qal t34) (Int.toNat t36) []) 6 C.ne)),((qgm (List.getD (List.getD (EC.encL qal t34) (Int.toNat t36) []) 7 C.ne)),((qgm (List.getD (List.getD (EC.encL qal t34) (Int.toNat t36) []) 8 C.ne)),((qgm (List.getD (List.getD (EC.encL qal t34) (Int.toNat t36) []) 9 C.ne)),(qgm (List.getD (List.getD (EC.encL qal t34) (Int.toNat t36) []) 10 C.ne))))))))))))) fun r0 =>
 ((q3e r0.1 r0.2).bind fun r1 =>
 (brE r1
 ((q3k r0.1 (IntKind.wrap .i64 ((-10) - t36))).bind fun r2 =>
 (some (.inl ((0,()),((EC.decL qan []),(r2.1,r2.2))))))
 (gdE (EC.isL qam (EC.encL qam events))<|
 (gdE (EC.isL qal (EC.encL qal zone))<|
 (gdE (EC.isL qal (EC.encL qal t34))<|
 (qcd (EC.decL qam (EC.encL qam events)) (EC.decL qal (EC.encL qal zone)) from_ to_ (EC.decL qal (EC.encL qal t34)) t35 (IntKind.wrap .i64 (t36+1)) b0 b0_1)))))))))
 (gdE (EC.isL qam (EC.encL qam events))<|
 (gdE (EC.isL qal (EC.encL qal zone))<|
 (gdE (EC.isL qal (EC.encL qal t34))<|
 (some (.inr (((EC.decL qam (EC.encL qam events)),((EC.decL qal (EC.encL qal zone)),(from_,(to_,((),((EC.decL qal (EC.encL qal t34)),(t35,(t36,false)))))))),(b0,b0_1))))))))
theorem qcf {events zone from_ to_ t34 t35 t36 b0 b0_1 r} (h:qck events zone from_ to_ t34 t35 t36 b0 b0_1=some r):qcd events zone from_ to_ t34 t35 t36 b0 b0_1=some r :=
 qhp (es:=qur) (hs:=[]) [] (by kernel_rfl) trivial trivial (by kernel_rfl) h
def qce:=qj2 Tryz.prog lv X1 7 (qfp (cdF Tryz.f4) 7) qcj qcg (fun x=>qcd x.1.1 x.1.2.1 x.1.2.2.1 x.1.2.2.2.1 x.1.2.2.2.2.2.1 x.1.2.2.2.2.2.2.1 x.1.2.2.2.2.2.2.2 x.2.1 x.2.2) (fun _ _ h=>qho h)
def qcb:=sLS [1,2,3,9,14,51,52,53] (qhl (vC (cSl qal)) (qhl (vC (cInt .i64)) (qhl (vC (cInt .i64)) (qhl (vPtr 0 0) (qhl (vRow 1) (qhl (vC (cSl qam)) (qhl (vC (cInt .i64)) (qhn (vC (cInt .i64)))))))))) (qhl (qkg (bBox (qhl (vC (cInt .i64)) (qhn (vC (cInt .i64)))))) (qhn (qkg (bRow qan)))) [false,false] [] (by decide) (fun _=>rfl)
def qca:=sLS [1,2,3,9,14,51,52,53,54] (qhl (vC (cSl qal)) (qhl (vC (cInt .i64)) (qhl (vC (cInt .i64)) (qhl (vPtr 0 0) (qhl (vRow 1) (qhl (vC (cSl qam)) (qhl (vC (cInt .i64)) (qhl (vC (cInt .i64)) (qhn (vC cBool)))))))))) (qhl (qkg (bBox (qhl (vC (cInt .i64)) (qhn (vC (cInt .i64)))))) (qhn (qkg (bRow qan)))) [false,false] [] (by decide) (fun _=>rfl)
def qc9:=sLS [8,9] (qhl (vRow 0) (qhn (vPtr 1 0))) (qhl (qkg (bRow qan)) (qhn (qkg (bBox (qhl (vC (cInt .i64)) (qhn (vC (cInt .i64)))))))) [false,false] [] (by decide) (fun _=>rfl)
def qc8:=oOr 1 qc9 (oAt 4 qca) (fun x=>(by decide:(4:Nat)≠1))
def qc5 (zone:(List S34)) (from_:Int) (to_:Int) (out:Nat) (t51:(List S42)) (t52:Int) (t53:Int) (b0:Int) (b0_1:Int) (b1:(List S47)):Option (((Nat×Unit)×((List S47)×(Int×Int)))⊕(((List S34)×Int×Int×Unit×Nat×(List S42)×Int×Int×Bool)×((Int×Int)×(List S47)))):=lS Tryz.prog lv X1 4 78 (qfp (cdF Tryz.f4) 15) qcb qc8 ((zone,from_,to_,(),out,t51,t52,t53),((b0,b0_1),b1))
def qcc (zone:(List S34)) (from_:Int) (to_:Int) (out:Nat) (t51:(List S42)) (t52:Int) (t53:Int) (b0:Int) (b0_1:Int) (b1:(List S47)):Option (((Nat×Unit)×((List S47)×(Int×Int)))⊕(((List S34)×Int×Int×Unit×Nat×(List S42)×Int×Int×Bool)×((Int×Int)×(List S47)))) :=
 (brE (decide (t53<t52))
 (gdE (decide (0≤t53))<|
 (gdE ((decide ((Int.toNat t53)<(List.length (EC.encL qam t51))))&&(isE [K1.str,(K1.int Go.IntKind.i64),(K1.int Go.IntKind.i64),K1.str,K1.str,K1.str,K1.sl,K1.str,(K1.int Go.IntKind.i64),(K1.int Go.IntKind.i64),(K1.int Go.IntKind.i64),(K1.int Go.IntKind.i64),(K1.int Go.IntKind.i64),(K1.int Go.IntKind.i64),(K1.int Go.IntKind.i64),(K1.int Go.IntKind.i64),(K1.int Go.IntKind.i64),(K1.int Go.IntKind.i64),(K1.int Go.IntKind.i64),(K1.int Go.IntKind.i64),K1.bool,K1.sl,K1.sl,K1.sl] 0 (List.getD (EC.encL qam t51) (Int.toNat t53) [])))<|
 (gdE (EC.isL qaj (slOf (List.getD (List.getD (EC.encL qam t51) (Int.toNat t53) []) 6 C.ne)))<|
 (gdE (EC.isL qak (slOf (List.getD (List.getD (EC.encL qam t51) (Int.toNat t53) []) 21 C.ne)))<|
 (gdE (EC.isL qak (slOf (List.getD (List.getD (EC.encL qam t51) (Int.toNat t53) []) 22 C.ne)))<|
 (gdE (EC.isL qak (slOf (List.getD (List.getD (EC.encL qam t51) (Int.toNat t53) []) 23 C.ne)))<|
 (gdE (EC.isL qal (EC.encL qal zone))<|
 ((evt_s (qtz (List.getD (List.getD (EC.encL qam t51) (Int.toNat t53) []) 0 C.ne)) (qgm (List.getD (List.getD (EC.encL qam t51) (Int.toNat t53) []) 1 C.ne)) (qgm (List.getD (List.getD (EC.encL qam t51) (Int.toNat t53) []) 2 C.ne)) (qtz (List.getD (List.getD (EC.encL qam t51) (Int.toNat t53) []) 3 C.ne)) (qtz (List.getD (List.getD (EC.encL qam t51) (Int.toNat t53) []) 4 C.ne)) (qtz (List.getD (List.getD (EC.encL qam t51) (Int.toNat t53) []) 5 C.ne)) (EC.decL qaj (slOf (List.getD (List.getD (EC.encL qam t51) (Int.toNat t53) []) 6 C.ne))) (qtz (List.getD (List.getD (EC.encL qam t51) (Int.toNat t53) []) 7 C.ne)) (qgm (List.getD (List.getD (EC.encL qam t51) (Int.toNat t53) []) 8 C.ne)) (qgm (List.getD (List.getD (EC.encL qam t51) (Int.toNat t53) []) 9 C.ne)) (qgm (List.getD (List.getD (EC.encL qam t51) (Int.toNat t53) []) 10 C.ne)) (qgm (List.getD (List.getD (EC.encL qam t51) (Int.toNat t53) []) 11 C.ne)) (qgm (List.getD (List.getD (EC.encL qam t51) (Int.toNat t53) []) 12 C.ne)) (qgm (List.getD (List.getD (EC.encL qam t51) (Int.toNat t53) []) 13 C.ne)) (qgm (List.getD (List.getD (EC.encL qam t51) (Int.toNat t53) []) 14 C.ne)) (qgm (List.getD (List.getD (EC.encL qam t51) (Int.toNat t53) []) 15 C.ne)) (qgm (List.getD (List.getD (EC.encL qam t51) (Int.toNat t53) []) 16 C.ne)) (qgm (List.getD (List.getD (EC.encL qam t51) (Int.toNat t53) []) 17 C.ne)) (qgm (List.getD (List.getD (EC.encL qam t51) (Int.toNat t53) []) 18 C.ne)) (qgm (List.getD (List.getD (EC.encL qam t51) (Int.toNat t53) []) 19 C.ne)) (q5l (List.getD (List.getD (EC.encL qam t51) (Int.toNat t53) []) 20 C.ne)) (EC.decL qak (slOf (List.getD (List.getD (EC.encL qam t51) (Int.toNat t53) []) 21 C.ne))) (EC.decL qak (slOf (List.getD (List.getD (EC.encL qam t51) (Int.toNat t53) []) 22 C.ne))) (EC.decL qak (slOf (List.getD (List.getD (EC.encL qam t51) (Int.toNat t53) []) 23 C.ne))) (EC.decL qal (EC.encL qal zone)) from_ to_).bind fun r0 =>
 (brE (r0.1.2 != 0)
 ((q3k r0.1.2 t53).bind fun r1 =>
 (some (.inl ((0,()),((EC.decL qan []),(r1.1,r1.2))))))
 (gdE ((((List.all (EC.encL qan r0.2) (fun (el:(List C))=>((List.length el)==2)))&&(List.all (EC.encL qan b1) (fun (el:(List C))=>((List.length el)==2))))&&(decide (((((out+(List.length (EC.encL qan r0.2)))+((out+(List.length (EC.encL qan r0.2))) / 4))+192)*16)≤281474976710656)))&&(decide ((out+(List.length (EC.encL qan r0.2)))≤9223372036854775807)))<|
 (gdE (EC.isL qal (EC.encL qal zone))<|
 (gdE (EC.isL qam (EC.encL qam t51))<|
 (gdE (EC.isL qan ((EC.encL qan b1)++(EC.encL qan r0.2)))<|
 (qc5 (EC.decL qal (EC.encL qal zone)) from_ to_ (out+(List.length (EC.encL qan r0.2))) (EC.decL qam (EC.encL qam t51)) t52 (IntKind.wrap .i64 (t53+1)) b0 b0_1 (EC.decL qan ((EC.encL qan b1)++(EC.encL qan r0.2)))))))))))))))))
 (gdE (EC.isL qal (EC.encL qal zone))<|
 (gdE (EC.isL qam (EC.encL qam t51))<|
 (gdE (EC.isL qan (EC.encL qan b1))<|
 (some (.inr (((EC.decL qal (EC.encL qal zone)),(from_,(to_,((),(out,((EC.decL qam (EC.encL qam t51)),(t52,(t53,false)))))))),((b0,b0_1),(EC.decL qan (EC.encL qan b1))))))))))
theorem qc7 {zone from_ to_ out t51 t52 t53 b0 b0_1 b1 r} (h:qcc zone from_ to_ out t51 t52 t53 b0 b0_1 b1=some r):qc5 zone from_ to_ out t51 t52 t53 b0 b0_1 b1=some r :=
 qhp (es:=qur) (hs:=[]) [] (by kernel_rfl) trivial trivial (by kernel_rfl) h
def qc6:=qj2 Tryz.prog lv X1 15 (qfp (cdF Tryz.f4) 15) qcb qc8 (fun x=>qc5 x.1.1 x.1.2.1 x.1.2.2.1 x.1.2.2.2.2.1 x.1.2.2.2.2.2.1 x.1.2.2.2.2.2.2.1 x.1.2.2.2.2.2.2.2 x.2.1.1 x.2.1.2 x.2.2) (fun _ _ h=>qho h)
def qc3:Cod (V×List B) ((Nat×(Int×Int))×(List S47)):=(cPair (vTup (qhl (vRow 0) (qhn (vAgg (qhl (vC (cInt .i64)) (qhn (vC (cInt .i64)))))))) (qhn (bRow qan)))
def fbOf_s (events:(List S42)) (zone:(List S34)) (from_:Int) (to_:Int):Option ((Nat×(Int×Int))×(List S47)):=fS Tryz.prog lv X1 4 qc2 qc3 (events,zone,from_,to_)
def fbOf_t (events:(List S42)) (zone:(List S34)) (from_:Int) (to_:Int):Option ((Nat×(Int×Int))×(List S47)) :=
 (brE ((decide ((List.length (EC.encL qam events):Int)>20))==false)
 (brE (decide ((List.length (EC.encL qal zone):Int)>60))
 ((q3k 2 (-1)).bind fun r0 =>
 (some ((0,(r0.1,r0.2)),(EC.decL qan []))))
 ((qf7 from_ to_).bind fun r0 =>
 ((q3e r0.1 r0.2).bind fun r1 =>
 (brE r1
 (some ((0,(r0.1,r0.2)),(EC.decL qan [])))
 (gdE (EC.isL qam (EC.encL qam events))<|
 (gdE (EC.isL qal (EC.encL qal zone))<|
 (gdE (EC.isL qal (EC.encL qal zone))<|
 ((qcd (EC.decL qam (EC.encL qam events)) (EC.decL qal (EC.encL qal zone)) from_ to_ (EC.decL qal (EC.encL qal zone)) (List.length (EC.encL qal zone):Int) 0 0 0).bind fun r2 =>
 (Sum.elim (fun r3=>(gdE (EC.isL qan (EC.encL qan r3.2.1))<|
 (some ((r3.1.1,(r3.2.2.1,r3.2.2.2)),(EC.decL qan (EC.encL qan r3.2.1))))))
 (fun r3=>(gdE (EC.isL qal (EC.encL qal r3.1.2.1))<|
 (gdE (EC.isL qam (EC.encL qam r3.1.1))<|
 ((qc5 (EC.decL qal (EC.encL qal r3.1.2.1)) r3.1.2.2.1 r3.1.2.2.2.1 0 (EC.decL qam (EC.encL qam r3.1.1)) (((List.length (EC.encL qam r3.1.1)):Nat):Int) 0 r3.2.1 r3.2.2 (EC.decL qan [])).bind fun r4 =>
 (Sum.elim (fun r5=>(gdE (EC.isL qan (EC.encL qan r5.2.1))<|
 (some ((r5.1.1,(r5.2.2.1,r5.2.2.2)),(EC.decL qan (EC.encL qan r5.2.1))))))
 (fun r5=>(gdE (EC.isL qan (EC.encL qan r5.2.2))<|
 ((unionS (EC.decL qan (EC.encL qan r5.2.2))).bind fun r6 =>
 (Option.bind q3s fun r7 =>
 (gdE (EC.isL qan (EC.encL qan r6.2))<|
 (some ((r6.1,(r7.1,r7.2)),(EC.decL qan (EC.encL qan r6.2))))))))) r4))))) r2)))))))))
 ((q3k 2 (-1)).bind fun r0 =>
 (some ((0,(r0.1,r0.2)),(EC.decL qan [])))))
theorem qc4 {events zone from_ to_ r} (h:fbOf_t events zone from_ to_=some r):fbOf_s events zone from_ to_=some r :=
 qbx (es:=qur) (hs:=[]) [qce,qc6] Tryz.func4 rfl (by kernel_rfl) rfl (by kernel_rfl) (by kernel_rfl) ⟨⟨_,rfl,rfl⟩,⟨_,rfl,rfl⟩,trivial⟩ trivial (by kernel_rfl) h
def fbOf_e:=entS Tryz.prog lv X1 4 [] qc2 qc3 (fun x=>fbOf_s x.1 x.2.1 x.2.2.1 x.2.2.2) (fun _ _ h=>qbw h)
def qut:=fbOf_e::qur
def qht:=(qhl (vC (cSl qam)) (qhl (vC (cSl qal)) (qhl (vC (cInt .i64)) (qhn (vC (cInt .i64))))))
def qin:=sLS [0,1,2,3,9,10,11,12] (qhl (vC (cSl qam)) (qhl (vC (cSl qal)) (qhl (vC (cInt .i64)) (qhl (vC (cInt .i64)) (qhl (vRow 0) (qhl (vPtr 1 0) (qhl (vPtr 2 0) (qhn (vC (cInt .i64)))))))))) (qhl (qkg (bRow qan)) (qhl (qkg (bBox (qhl (vC (cInt .i64)) (qhn (vC (cInt .i64)))))) (qhn (qkg (bBox (qhl (vC (cInt .i64)) (qhn (vC (cInt .i64))))))))) [false,false,false] [] (by decide) (fun _=>rfl)
def qim:=sLS [0,1,2,3,9,10,11,12,53] (qhl (vC (cSl qam)) (qhl (vC (cSl qal)) (qhl (vC (cInt .i64)) (qhl (vC (cInt .i64)) (qhl (vRow 0) (qhl (vPtr 1 0) (qhl (vPtr 2 0) (qhl (vC (cInt .i64)) (qhn (vC cBool)))))))))) (qhl (qkg (bRow qan)) (qhl (qkg (bBox (qhl (vC (cInt .i64)) (qhn (vC (cInt .i64)))))) (qhn (qkg (bBox (qhl (vC (cInt .i64)) (qhn (vC (cInt .i64))))))))) [false,false,false] [] (by decide) (fun _=>rfl)
def qil:=oAt 2 qim
def qii (events:(List S42)) (zone:(List S34)) (from_:Int) (to_:Int) (k:Nat) (i:Int) (b0:(List S47)) (b1:Int) (b1_1:Int) (b2:Int) (b2_1:Int):Option (((List S42)×(List S34)×Int×Int×Nat×Unit×Unit×Int×Bool)×((List S47)×(Int×Int)×(Int×Int))):=lS Tryz.prog lv X1 3 213 (qfp (cdF Tryz.f3) 8) qin qil ((events,zone,from_,to_,k,(),(),i),(b0,(b1,b1_1),(b2,b2_1)))
def qio (events:(List S42)) (zone:(List S34)) (from_:Int) (to_:Int) (k:Nat) (i:Int) (b0:(List S47)) (b1:Int) (b1_1:Int) (b2:Int) (b2_1:Int):Option (((List S42)×(List S34)×Int×Int×Nat×Unit×Unit×Int×Bool)×((List S47)×(Int×Int)×(Int×Int))) :=
 (brE ((decide (i<(List.length (EC.encL qal zone):Int)))==true)
 (brE (b2==0)
 (gdE (decide (0≤i))<|
 (gdE ((decide ((Int.toNat i)<(List.length (EC.encL qal zone))))&&(isE [K1.str,(K1.int Go.IntKind.i64),(K1.int Go.IntKind.i64),(K1.int Go.IntKind.i64),(K1.int Go.IntKind.i64),(K1.int Go.IntKind.i64),(K1.int Go.IntKind.i64),(K1.int Go.IntKind.i64),(K1.int Go.IntKind.i64),(K1.int Go.IntKind.i64),(K1.int Go.IntKind.i64)] 0 (List.getD (EC.encL qal zone) (Int.toNat i) [])))<|
 (Option.bind (pZval ((qtz (List.getD (List.getD (EC.encL qal zone) (Int.toNat i) []) 0 C.ne)),((qgm (List.getD (List.getD (EC.encL qal zone) (Int.toNat i) []) 1 C.ne)),((qgm (List.getD (List.getD (EC.encL qal zone) (Int.toNat i) []) 2 C.ne)),((qgm (List.getD (List.getD (EC.encL qal zone) (Int.toNat i) []) 3 C.ne)),((qgm (List.getD (List.getD (EC.encL qal zone) (Int.toNat i) []) 4 C.ne)),((qgm (List.getD (List.getD (EC.encL qal zone) (Int.toNat i) []) 5 C.ne)),((qgm (List.getD (List.getD (EC.encL qal zone) (Int.toNat i) []) 6 C.ne)),((qgm (List.getD (List.getD (EC.encL qal zone) (Int.toNat i) []) 7 C.ne)),((qgm (List.getD (List.getD (EC.encL qal zone) (Int.toNat i) []) 8 C.ne)),((qgm (List.getD (List.getD (EC.encL qal zone) (Int.toNat i) []) 9 C.ne)),(qgm (List.getD (List.getD (EC.encL qal zone) (Int.toNat i) []) 10 C.ne))))))))))))) fun r0 =>
 (brE (r0.1 != 0)
 ((qln r0.1 (IntKind.wrap .i64 ((-10) - i))).bind fun r1 =>
 (gdE (EC.isL qam (EC.encL qam events))<|
 (gdE (EC.isL qal (EC.encL qal zone))<|
 (gdE (EC.isL qan (EC.encL qan b0))<|
 (qii (EC.decL qam (EC.encL qam events)) (EC.decL qal (EC.encL qal zone)) from_ to_ k (IntKind.wrap .i64 (i+1)) (EC.decL qan (EC.encL qan b0)) b1 b1_1 r1.1 r1.2)))))
 (gdE (EC.isL qam (EC.encL qam events))<|
 (gdE (EC.isL qal (EC.encL qal zone))<|
 (gdE (EC.isL qan (EC.encL qan b0))<|
 (qii (EC.decL qam (EC.encL qam events)) (EC.decL qal (EC.encL qal zone)) from_ to_ k (IntKind.wrap .i64 (i+1)) (EC.decL qan (EC.encL qan b0)) b1 b1_1 b2 b2_1))))))))
 (gdE (EC.isL qam (EC.encL qam events))<|
 (gdE (EC.isL qal (EC.encL qal zone))<|
 (gdE (EC.isL qan (EC.encL qan b0))<|
 (some (((EC.decL qam (EC.encL qam events)),((EC.decL qal (EC.encL qal zone)),(from_,(to_,(k,((),((),(i,false)))))))),((EC.decL qan (EC.encL qan b0)),((b1,b1_1),(b2,b2_1)))))))))
 (gdE (EC.isL qam (EC.encL qam events))<|
 (gdE (EC.isL qal (EC.encL qal zone))<|
 (gdE (EC.isL qan (EC.encL qan b0))<|
 (some (((EC.decL qam (EC.encL qam events)),((EC.decL qal (EC.encL qal zone)),(from_,(to_,(k,((),((),(i,false)))))))),((EC.decL qan (EC.encL qan b0)),((b1,b1_1),(b2,b2_1)))))))))
theorem qik {events zone from_ to_ k i b0 b1 b1_1 b2 b2_1 r} (h:qio events zone from_ to_ k i b0 b1 b1_1 b2 b2_1=some r):qii events zone from_ to_ k i b0 b1 b1_1 b2 b2_1=some r :=
 qhp (es:=qut) (hs:=[]) [] (by kernel_rfl) trivial trivial (by kernel_rfl) h
def qij:=qj2 Tryz.prog lv X1 8 (qfp (cdF Tryz.f3) 8) qin qil (fun x=>qii x.1.1 x.1.2.1 x.1.2.2.1 x.1.2.2.2.1 x.1.2.2.2.2.1 x.1.2.2.2.2.2.2.2 x.2.1 x.2.2.1.1 x.2.2.1.2 x.2.2.2.1 x.2.2.2.2) (fun _ _ h=>qho h)
def qi9:=sLS [0,1,2,3,9,10,11,14,15,16,17] (qhl (vC (cSl qam)) (qhl (vC (cSl qal)) (qhl (vC (cInt .i64)) (qhl (vC (cInt .i64)) (qhl (vRow 0) (qhl (vPtr 1 0) (qhl (vPtr 2 0) (qhl (vRow 3) (qhl (vC (cInt .i64)) (qhl (vC (cInt .i64)) (qhn (vC (cInt .i64))))))))))))) (qhl (qkg (bRow qan)) (qhl (qkg (bBox (qhl (vC (cInt .i64)) (qhn (vC (cInt .i64)))))) (qhl (qkg (bBox (qhl (vC (cInt .i64)) (qhn (vC (cInt .i64)))))) (qhn (qkg (bRow qan)))))) [false,false,false,false] [] (by decide) (fun _=>rfl)
def qi8:=sLS [0,1,2,3,9,10,11,14,15,16,17,84] (qhl (vC (cSl qam)) (qhl (vC (cSl qal)) (qhl (vC (cInt .i64)) (qhl (vC (cInt .i64)) (qhl (vRow 0) (qhl (vPtr 1 0) (qhl (vPtr 2 0) (qhl (vRow 3) (qhl (vC (cInt .i64)) (qhl (vC (cInt .i64)) (qhl (vC (cInt .i64)) (qhn (vC cBool))))))))))))) (qhl (qkg (bRow qan)) (qhl (qkg (bBox (qhl (vC (cInt .i64)) (qhn (vC (cInt .i64)))))) (qhl (qkg (bBox (qhl (vC (cInt .i64)) (qhn (vC (cInt .i64)))))) (qhn (qkg (bRow qan)))))) [false,false,false,false] [] (by decide) (fun _=>rfl)
def qi7:=oAt 6 qi8
def qi4 (events:(List S42)) (zone:(List S34)) (from_:Int) (to_:Int) (k:Nat) (all:Nat) (i:Int) (z:Int) (n:Int) (b0:(List S47)) (b1:Int) (b1_1:Int) (b2:Int) (b2_1:Int) (b3:(List S47)):Option (((List S42)×(List S34)×Int×Int×Nat×Unit×Unit×Nat×Int×Int×Int×Bool)×((List S47)×(Int×Int)×(Int×Int)×(List S47))):=lS Tryz.prog lv X1 3 213 (qfp (cdF Tryz.f3) 19) qi9 qi7 ((events,zone,from_,to_,k,(),(),all,i,z,n),(b0,(b1,b1_1),(b2,b2_1),b3))
def qia (events:(List S42)) (zone:(List S34)) (from_:Int) (to_:Int) (k:Nat) (all:Nat) (i:Int) (z:Int) (n:Int) (b0:(List S47)) (b1:Int) (b1_1:Int) (b2:Int) (b2_1:Int) (b3:(List S47)):Option (((List S42)×(List S34)×Int×Int×Nat×Unit×Unit×Nat×Int×Int×Int×Bool)×((List S47)×(Int×Int)×(Int×Int)×(List S47))) :=
 (brE (decide (n≥0))
 (gdE (decide (0≤n))<|
 (gdE ((decide ((Int.toNat n)<(List.length (EC.encL qal zone))))&&(isE [K1.str,(K1.int Go.IntKind.i64),(K1.int Go.IntKind.i64),(K1.int Go.IntKind.i64),(K1.int Go.IntKind.i64),(K1.int Go.IntKind.i64),(K1.int Go.IntKind.i64),(K1.int Go.IntKind.i64),(K1.int Go.IntKind.i64),(K1.int Go.IntKind.i64),(K1.int Go.IntKind.i64)] 0 (List.getD (EC.encL qal zone) (Int.toNat n) [])))<|
 (gdE (decide (0≤i))<|
 (gdE ((decide ((Int.toNat i)<(List.length (EC.encL qam events))))&&(isE [K1.str,(K1.int Go.IntKind.i64),(K1.int Go.IntKind.i64),K1.str,K1.str,K1.str,K1.sl,K1.str,(K1.int Go.IntKind.i64),(K1.int Go.IntKind.i64),(K1.int Go.IntKind.i64),(K1.int Go.IntKind.i64),(K1.int Go.IntKind.i64),(K1.int Go.IntKind.i64),(K1.int Go.IntKind.i64),(K1.int Go.IntKind.i64),(K1.int Go.IntKind.i64),(K1.int Go.IntKind.i64),(K1.int Go.IntKind.i64),(K1.int Go.IntKind.i64),K1.bool,K1.sl,K1.sl,K1.sl] 0 (List.getD (EC.encL qam events) (Int.toNat i) [])))<|
 (brE ((ByteArray.toList (qtz (List.getD (List.getD (EC.encL qal zone) (Int.toNat n) []) 0 C.ne)))==(ByteArray.toList (qtz (List.getD (List.getD (EC.encL qam events) (Int.toNat i) []) 7 C.ne))))
 (gdE (EC.isL qam (EC.encL qam events))<|
 (gdE (EC.isL qal (EC.encL qal zone))<|
 (gdE (EC.isL qan (EC.encL qan b0))<|
 (gdE (EC.isL qan (EC.encL qan b3))<|
 (qi4 (EC.decL qam (EC.encL qam events)) (EC.decL qal (EC.encL qal zone)) from_ to_ k all i n (IntKind.wrap .i64 (n - 1)) (EC.decL qan (EC.encL qan b0)) b1 b1_1 b2 b2_1 (EC.decL qan (EC.encL qan b3)))))))
 (gdE (EC.isL qam (EC.encL qam events))<|
 (gdE (EC.isL qal (EC.encL qal zone))<|
 (gdE (EC.isL qan (EC.encL qan b0))<|
 (gdE (EC.isL qan (EC.encL qan b3))<|
 (qi4 (EC.decL qam (EC.encL qam events)) (EC.decL qal (EC.encL qal zone)) from_ to_ k all i z (IntKind.wrap .i64 (n - 1)) (EC.decL qan (EC.encL qan b0)) b1 b1_1 b2 b2_1 (EC.decL qan (EC.encL qan b3))))))))))))
 (gdE (EC.isL qam (EC.encL qam events))<|
 (gdE (EC.isL qal (EC.encL qal zone))<|
 (gdE (EC.isL qan (EC.encL qan b0))<|
 (gdE (EC.isL qan (EC.encL qan b3))<|
 (some (((EC.decL qam (EC.encL qam events)),((EC.decL qal (EC.encL qal zone)),(from_,(to_,(k,((),((),(all,(i,(z,(n,false))))))))))),((EC.decL qan (EC.encL qan b0)),((b1,b1_1),((b2,b2_1),(EC.decL qan (EC.encL qan b3))))))))))))
theorem qi6 {events zone from_ to_ k all i z n b0 b1 b1_1 b2 b2_1 b3 r} (h:qia events zone from_ to_ k all i z n b0 b1 b1_1 b2 b2_1 b3=some r):qi4 events zone from_ to_ k all i z n b0 b1 b1_1 b2 b2_1 b3=some r :=
 qhp (es:=qut) (hs:=[]) [] (by kernel_rfl) trivial trivial (by kernel_rfl) h
def qi5:=qj2 Tryz.prog lv X1 19 (qfp (cdF Tryz.f3) 19) qi9 qi7 (fun x=>qi4 x.1.1 x.1.2.1 x.1.2.2.1 x.1.2.2.2.1 x.1.2.2.2.2.1 x.1.2.2.2.2.2.2.2.1 x.1.2.2.2.2.2.2.2.2.1 x.1.2.2.2.2.2.2.2.2.2.1 x.1.2.2.2.2.2.2.2.2.2.2 x.2.1 x.2.2.1.1 x.2.2.1.2 x.2.2.2.1.1 x.2.2.2.1.2 x.2.2.2.2) (fun _ _ h=>qho h)
def qig:=sLS [0,1,2,3,9,10,11,14,15,18,19,21] (qhl (vC (cSl qam)) (qhl (vC (cSl qal)) (qhl (vC (cInt .i64)) (qhl (vC (cInt .i64)) (qhl (vRow 0) (qhl (vPtr 1 0) (qhl (vPtr 2 0) (qhl (vRow 3) (qhl (vC (cInt .i64)) (qhl (vC (cInt .i64)) (qhl (vC (cSl qak)) (qhn (vC (cInt .i64)))))))))))))) (qhl (qkg (bRow qan)) (qhl (qkg (bBox (qhl (vC (cInt .i64)) (qhn (vC (cInt .i64)))))) (qhl (qkg (bBox (qhl (vC (cInt .i64)) (qhn (vC (cInt .i64)))))) (qhn (qkg (bRow qan)))))) [false,false,false,false] [] (by decide) (fun _=>rfl)
def qif:=sLS [0,1,2,3,9,10,11,14,15,18,19,21,159] (qhl (vC (cSl qam)) (qhl (vC (cSl qal)) (qhl (vC (cInt .i64)) (qhl (vC (cInt .i64)) (qhl (vRow 0) (qhl (vPtr 1 0) (qhl (vPtr 2 0) (qhl (vRow 3) (qhl (vC (cInt .i64)) (qhl (vC (cInt .i64)) (qhl (vC (cSl qak)) (qhl (vC (cInt .i64)) (qhn (vC cBool)))))))))))))) (qhl (qkg (bRow qan)) (qhl (qkg (bBox (qhl (vC (cInt .i64)) (qhn (vC (cInt .i64)))))) (qhl (qkg (bBox (qhl (vC (cInt .i64)) (qhn (vC (cInt .i64)))))) (qhn (qkg (bRow qan)))))) [false,false,false,false] [] (by decide) (fun _=>rfl)
def qie:=oAt 8 qif
def qib (events:(List S42)) (zone:(List S34)) (from_:Int) (to_:Int) (k:Nat) (all:Nat) (i:Int) (length:Int) (l:(List Int)) (n:Int) (b0:(List S47)) (b1:Int) (b1_1:Int) (b2:Int) (b2_1:Int) (b3:(List S47)):Option (((List S42)×(List S34)×Int×Int×Nat×Unit×Unit×Nat×Int×Int×(List Int)×Int×Bool)×((List S47)×(Int×Int)×(Int×Int)×(List S47))):=lS Tryz.prog lv X1 3 213 (qfp (cdF Tryz.f3) 32) qig qie ((events,zone,from_,to_,k,(),(),all,i,length,l,n),(b0,(b1,b1_1),(b2,b2_1),b3))
def qih (events:(List S42)) (zone:(List S34)) (from_:Int) (to_:Int) (k:Nat) (all:Nat) (i:Int) (length:Int) (l:(List Int)) (n:Int) (b0:(List S47)) (b1:Int) (b1_1:Int) (b2:Int) (b2_1:Int) (b3:(List S47)):Option (((List S42)×(List S34)×Int×Int×Nat×Unit×Unit×Nat×Int×Int×(List Int)×Int×Bool)×((List S47)×(Int×Int)×(Int×Int)×(List S47))) :=
 (brE ((decide (n<(List.length (EC.encL qak l):Int)))==true)
 (gdE (decide (0≤i))<|
 (gdE ((decide ((Int.toNat i)<(List.length (EC.encL qam events))))&&(isE [K1.str,(K1.int Go.IntKind.i64),(K1.int Go.IntKind.i64),K1.str,K1.str,K1.str,K1.sl,K1.str,(K1.int Go.IntKind.i64),(K1.int Go.IntKind.i64),(K1.int Go.IntKind.i64),(K1.int Go.IntKind.i64),(K1.int Go.IntKind.i64),(K1.int Go.IntKind.i64),(K1.int Go.IntKind.i64),(K1.int Go.IntKind.i64),(K1.int Go.IntKind.i64),(K1.int Go.IntKind.i64),(K1.int Go.IntKind.i64),(K1.int Go.IntKind.i64),K1.bool,K1.sl,K1.sl,K1.sl] 0 (List.getD (EC.encL qam events) (Int.toNat i) [])))<|
 (brE ((qgm (List.getD (List.getD (EC.encL qam events) (Int.toNat i) []) 1 C.ne)) != 4)
 (gdE (decide (0≤n))<|
 (gdE ((decide ((Int.toNat n)<(List.length (EC.encL qak l))))&&(isE [(K1.int Go.IntKind.i64)] 0 (List.getD (EC.encL qak l) (Int.toNat n) [])))<|
 (gdE (decide (0≤n))<|
 (gdE ((decide ((Int.toNat n)<(List.length (EC.encL qak l))))&&(isE [(K1.int Go.IntKind.i64)] 0 (List.getD (EC.encL qak l) (Int.toNat n) [])))<|
 (gdE ((((List.all [[(C.int Go.IntKind.i64 (qgm (List.getD (List.getD (EC.encL qak l) (Int.toNat n) []) 0 C.ne))),(C.int Go.IntKind.i64 (IntKind.wrap .i64 ((qgm (List.getD (List.getD (EC.encL qak l) (Int.toNat n) []) 0 C.ne))+length)))]] (fun (el:(List C))=>((List.length el)==2)))&&(List.all (EC.encL qan b3) (fun (el:(List C))=>((List.length el)==2))))&&(decide (((((all+(List.length [[(C.int Go.IntKind.i64 (qgm (List.getD (List.getD (EC.encL qak l) (Int.toNat n) []) 0 C.ne))),(C.int Go.IntKind.i64 (IntKind.wrap .i64 ((qgm (List.getD (List.getD (EC.encL qak l) (Int.toNat n) []) 0 C.ne))+length)))]]))+((all+(List.length [[(C.int Go.IntKind.i64 (qgm (List.getD (List.getD (EC.encL qak l) (Int.toNat n) []) 0 C.ne))),(C.int Go.IntKind.i64 (IntKind.wrap .i64 ((qgm (List.getD (List.getD (EC.encL qak l) (Int.toNat n) []) 0 C.ne))+length)))]])) / 4))+192)*16)≤281474976710656)))&&(decide ((all+(List.length [[(C.int Go.IntKind.i64 (qgm (List.getD (List.getD (EC.encL qak l) (Int.toNat n) []) 0 C.ne))),(C.int Go.IntKind.i64 (IntKind.wrap .i64 ((qgm (List.getD (List.getD (EC.encL qak l) (Int.toNat n) []) 0 C.ne))+length)))]]))≤9223372036854775807)))<|
 (gdE (EC.isL qam (EC.encL qam events))<|
 (gdE (EC.isL qal (EC.encL qal zone))<|
 (gdE (EC.isL qak (EC.encL qak l))<|
 (gdE (EC.isL qan (EC.encL qan b0))<|
 (gdE (EC.isL qan ((EC.encL qan b3)++[[(C.int Go.IntKind.i64 (qgm (List.getD (List.getD (EC.encL qak l) (Int.toNat n) []) 0 C.ne))),(C.int Go.IntKind.i64 (IntKind.wrap .i64 ((qgm (List.getD (List.getD (EC.encL qak l) (Int.toNat n) []) 0 C.ne))+length)))]]))<|
 (qib (EC.decL qam (EC.encL qam events)) (EC.decL qal (EC.encL qal zone)) from_ to_ k (all+(List.length [[(C.int Go.IntKind.i64 (qgm (List.getD (List.getD (EC.encL qak l) (Int.toNat n) []) 0 C.ne))),(C.int Go.IntKind.i64 (IntKind.wrap .i64 ((qgm (List.getD (List.getD (EC.encL qak l) (Int.toNat n) []) 0 C.ne))+length)))]])) i length (EC.decL qak (EC.encL qak l)) (IntKind.wrap .i64 (n+1)) (EC.decL qan (EC.encL qan b0)) b1 b1_1 b2 b2_1 (EC.decL qan ((EC.encL qan b3)++[[(C.int Go.IntKind.i64 (qgm (List.getD (List.getD (EC.encL qak l) (Int.toNat n) []) 0 C.ne))),(C.int Go.IntKind.i64 (IntKind.wrap .i64 ((qgm (List.getD (List.getD (EC.encL qak l) (Int.toNat n) []) 0 C.ne))+length)))]])))))))))))))
 (gdE (EC.isL qam (EC.encL qam events))<|
 (gdE (EC.isL qal (EC.encL qal zone))<|
 (gdE (EC.isL qak (EC.encL qak l))<|
 (gdE (EC.isL qan (EC.encL qan b0))<|
 (gdE (EC.isL qan (EC.encL qan b3))<|
 (some (((EC.decL qam (EC.encL qam events)),((EC.decL qal (EC.encL qal zone)),(from_,(to_,(k,((),((),(all,(i,(length,((EC.decL qak (EC.encL qak l)),(n,false)))))))))))),((EC.decL qan (EC.encL qan b0)),((b1,b1_1),((b2,b2_1),(EC.decL qan (EC.encL qan b3)))))))))))))))
 (gdE (EC.isL qam (EC.encL qam events))<|
 (gdE (EC.isL qal (EC.encL qal zone))<|
 (gdE (EC.isL qak (EC.encL qak l))<|
 (gdE (EC.isL qan (EC.encL qan b0))<|
 (gdE (EC.isL qan (EC.encL qan b3))<|
 (some (((EC.decL qam (EC.encL qam events)),((EC.decL qal (EC.encL qal zone)),(from_,(to_,(k,((),((),(all,(i,(length,((EC.decL qak (EC.encL qak l)),(n,false)))))))))))),((EC.decL qan (EC.encL qan b0)),((b1,b1_1),((b2,b2_1),(EC.decL qan (EC.encL qan b3)))))))))))))
theorem qid {events zone from_ to_ k all i length l n b0 b1 b1_1 b2 b2_1 b3 r} (h:qih events zone from_ to_ k all i length l n b0 b1 b1_1 b2 b2_1 b3=some r):qib events zone from_ to_ k all i length l n b0 b1 b1_1 b2 b2_1 b3=some r :=
 qhp (es:=qut) (hs:=[]) [] (by kernel_rfl) trivial trivial (by kernel_rfl) h
def qic:=qj2 Tryz.prog lv X1 32 (qfp (cdF Tryz.f3) 32) qig qie (fun x=>qib x.1.1 x.1.2.1 x.1.2.2.1 x.1.2.2.2.1 x.1.2.2.2.2.1 x.1.2.2.2.2.2.2.2.1 x.1.2.2.2.2.2.2.2.2.1 x.1.2.2.2.2.2.2.2.2.2.1 x.1.2.2.2.2.2.2.2.2.2.2.1 x.1.2.2.2.2.2.2.2.2.2.2.2 x.2.1 x.2.2.1.1 x.2.2.1.2 x.2.2.2.1.1 x.2.2.2.1.2 x.2.2.2.2) (fun _ _ h=>qho h)
def qi2:=sLS [0,1,2,3,9,10,11,14,15] (qhl (vC (cSl qam)) (qhl (vC (cSl qal)) (qhl (vC (cInt .i64)) (qhl (vC (cInt .i64)) (qhl (vRow 0) (qhl (vPtr 1 0) (qhl (vPtr 2 0) (qhl (vRow 3) (qhn (vC (cInt .i64))))))))))) (qhl (qkg (bRow qan)) (qhl (qkg (bBox (qhl (vC (cInt .i64)) (qhn (vC (cInt .i64)))))) (qhl (qkg (bBox (qhl (vC (cInt .i64)) (qhn (vC (cInt .i64)))))) (qhn (qkg (bRow qan)))))) [false,false,false,false] [] (by decide) (fun _=>rfl)
def qi1:=sLS [0,1,2,3,9,10,11,14,15,77] (qhl (vC (cSl qam)) (qhl (vC (cSl qal)) (qhl (vC (cInt .i64)) (qhl (vC (cInt .i64)) (qhl (vRow 0) (qhl (vPtr 1 0) (qhl (vPtr 2 0) (qhl (vRow 3) (qhl (vC (cInt .i64)) (qhn (vC cBool))))))))))) (qhl (qkg (bRow qan)) (qhl (qkg (bBox (qhl (vC (cInt .i64)) (qhn (vC (cInt .i64)))))) (qhl (qkg (bBox (qhl (vC (cInt .i64)) (qhn (vC (cInt .i64)))))) (qhn (qkg (bRow qan)))))) [false,false,false,false] [] (by decide) (fun _=>rfl)
def qi0:=oAt 4 qi1
def qhx (events:(List S42)) (zone:(List S34)) (from_:Int) (to_:Int) (k:Nat) (all:Nat) (i:Int) (b0:(List S47)) (b1:Int) (b1_1:Int) (b2:Int) (b2_1:Int) (b3:(List S47)):Option (((List S42)×(List S34)×Int×Int×Nat×Unit×Unit×Nat×Int×Bool)×((List S47)×(Int×Int)×(Int×Int)×(List S47))):=lS Tryz.prog lv X1 3 213 (qfp (cdF Tryz.f3) 15) qi2 qi0 ((events,zone,from_,to_,k,(),(),all,i),(b0,(b1,b1_1),(b2,b2_1),b3))
def qi3 (events:(List S42)) (zone:(List S34)) (from_:Int) (to_:Int) (k:Nat) (all:Nat) (i:Int) (b0:(List S47)) (b1:Int) (b1_1:Int) (b2:Int) (b2_1:Int) (b3:(List S47)):Option (((List S42)×(List S34)×Int×Int×Nat×Unit×Unit×Nat×Int×Bool)×((List S47)×(Int×Int)×(Int×Int)×(List S47))) :=
 (brE ((decide (i<(List.length (EC.encL qam events):Int)))==true)
 (brE (b2==0)
 (gdE (EC.isL qam (EC.encL qam events))<|
 (gdE (EC.isL qal (EC.encL qal zone))<|
 (gdE (EC.isL qan (EC.encL qan b0))<|
 (gdE (EC.isL qan (EC.encL qan b3))<|
 ((qi4 (EC.decL qam (EC.encL qam events)) (EC.decL qal (EC.encL qal zone)) from_ to_ k all i (-1) (IntKind.wrap .i64 ((List.length (EC.encL qal zone):Int) - 1)) (EC.decL qan (EC.encL qan b0)) b1 b1_1 b2 b2_1 (EC.decL qan (EC.encL qan b3))).bind fun r0 =>
 (brE (decide (r0.1.2.2.2.2.2.2.2.2.2.1<0))
 ((qln 6 r0.1.2.2.2.2.2.2.2.2.1).bind fun r1 =>
 (gdE (EC.isL qam (EC.encL qam r0.1.1))<|
 (gdE (EC.isL qal (EC.encL qal r0.1.2.1))<|
 (gdE (EC.isL qan (EC.encL qan r0.2.1))<|
 (gdE (EC.isL qan (EC.encL qan r0.2.2.2.2))<|
 (qhx (EC.decL qam (EC.encL qam r0.1.1)) (EC.decL qal (EC.encL qal r0.1.2.1)) r0.1.2.2.1 r0.1.2.2.2.1 r0.1.2.2.2.2.1 r0.1.2.2.2.2.2.2.2.1 (IntKind.wrap .i64 (r0.1.2.2.2.2.2.2.2.2.1+1)) (EC.decL qan (EC.encL qan r0.2.1)) r0.2.2.1.1 r0.2.2.1.2 r1.1 r1.2 (EC.decL qan (EC.encL qan r0.2.2.2.2))))))))
 (gdE (decide (0≤r0.1.2.2.2.2.2.2.2.2.1))<|
 (gdE ((decide ((Int.toNat r0.1.2.2.2.2.2.2.2.2.1)<(List.length (EC.encL qam r0.1.1))))&&(isE [K1.str,(K1.int Go.IntKind.i64),(K1.int Go.IntKind.i64),K1.str,K1.str,K1.str,K1.sl,K1.str,(K1.int Go.IntKind.i64),(K1.int Go.IntKind.i64),(K1.int Go.IntKind.i64),(K1.int Go.IntKind.i64),(K1.int Go.IntKind.i64),(K1.int Go.IntKind.i64),(K1.int Go.IntKind.i64),(K1.int Go.IntKind.i64),(K1.int Go.IntKind.i64),(K1.int Go.IntKind.i64),(K1.int Go.IntKind.i64),(K1.int Go.IntKind.i64),K1.bool,K1.sl,K1.sl,K1.sl] 0 (List.getD (EC.encL qam r0.1.1) (Int.toNat r0.1.2.2.2.2.2.2.2.2.1) [])))<|
 ((qlt (qgm (List.getD (List.getD (EC.encL qam r0.1.1) (Int.toNat r0.1.2.2.2.2.2.2.2.2.1) []) 15 C.ne)) 0 1000000).bind fun r1 =>
 (brE (!r1)
 ((qln 3 r0.1.2.2.2.2.2.2.2.2.1).bind fun r2 =>
 (gdE (EC.isL qam (EC.encL qam r0.1.1))<|
 (gdE (EC.isL qal (EC.encL qal r0.1.2.1))<|
 (gdE (EC.isL qan (EC.encL qan r0.2.1))<|
 (gdE (EC.isL qan (EC.encL qan r0.2.2.2.2))<|
 (qhx (EC.decL qam (EC.encL qam r0.1.1)) (EC.decL qal (EC.encL qal r0.1.2.1)) r0.1.2.2.1 r0.1.2.2.2.1 r0.1.2.2.2.2.1 r0.1.2.2.2.2.2.2.2.1 (IntKind.wrap .i64 (r0.1.2.2.2.2.2.2.2.2.1+1)) (EC.decL qan (EC.encL qan r0.2.1)) r0.2.2.1.1 r0.2.2.1.2 r2.1 r2.2 (EC.decL qan (EC.encL qan r0.2.2.2.2))))))))
 (gdE (decide (0≤r0.1.2.2.2.2.2.2.2.2.1))<|
 (gdE ((decide ((Int.toNat r0.1.2.2.2.2.2.2.2.2.1)<(List.length (EC.encL qam r0.1.1))))&&(isE [K1.str,(K1.int Go.IntKind.i64),(K1.int Go.IntKind.i64),K1.str,K1.str,K1.str,K1.sl,K1.str,(K1.int Go.IntKind.i64),(K1.int Go.IntKind.i64),(K1.int Go.IntKind.i64),(K1.int Go.IntKind.i64),(K1.int Go.IntKind.i64),(K1.int Go.IntKind.i64),(K1.int Go.IntKind.i64),(K1.int Go.IntKind.i64),(K1.int Go.IntKind.i64),(K1.int Go.IntKind.i64),(K1.int Go.IntKind.i64),(K1.int Go.IntKind.i64),K1.bool,K1.sl,K1.sl,K1.sl] 0 (List.getD (EC.encL qam r0.1.1) (Int.toNat r0.1.2.2.2.2.2.2.2.2.1) [])))<|
 (gdE (decide (0≤r0.1.2.2.2.2.2.2.2.2.2.1))<|
 (gdE ((decide ((Int.toNat r0.1.2.2.2.2.2.2.2.2.2.1)<(List.length (EC.encL qal r0.1.2.1))))&&(isE [K1.str,(K1.int Go.IntKind.i64),(K1.int Go.IntKind.i64),(K1.int Go.IntKind.i64),(K1.int Go.IntKind.i64),(K1.int Go.IntKind.i64),(K1.int Go.IntKind.i64),(K1.int Go.IntKind.i64),(K1.int Go.IntKind.i64),(K1.int Go.IntKind.i64),(K1.int Go.IntKind.i64)] 0 (List.getD (EC.encL qal r0.1.2.1) (Int.toNat r0.1.2.2.2.2.2.2.2.2.2.1) [])))<|
 (gdE (decide (0≤r0.1.2.2.2.2.2.2.2.2.1))<|
 (gdE ((decide ((Int.toNat r0.1.2.2.2.2.2.2.2.2.1)<(List.length (EC.encL qam r0.1.1))))&&(isE [K1.str,(K1.int Go.IntKind.i64),(K1.int Go.IntKind.i64),K1.str,K1.str,K1.str,K1.sl,K1.str,(K1.int Go.IntKind.i64),(K1.int Go.IntKind.i64),(K1.int Go.IntKind.i64),(K1.int Go.IntKind.i64),(K1.int Go.IntKind.i64),(K1.int Go.IntKind.i64),(K1.int Go.IntKind.i64),(K1.int Go.IntKind.i64),(K1.int Go.IntKind.i64),(K1.int Go.IntKind.i64),(K1.int Go.IntKind.i64),(K1.int Go.IntKind.i64),K1.bool,K1.sl,K1.sl,K1.sl] 0 (List.getD (EC.encL qam r0.1.1) (Int.toNat r0.1.2.2.2.2.2.2.2.2.1) [])))<|
 (gdE (decide (0≤r0.1.2.2.2.2.2.2.2.2.1))<|
 (gdE ((decide ((Int.toNat r0.1.2.2.2.2.2.2.2.2.1)<(List.length (EC.encL qam r0.1.1))))&&(isE [K1.str,(K1.int Go.IntKind.i64),(K1.int Go.IntKind.i64),K1.str,K1.str,K1.str,K1.sl,K1.str,(K1.int Go.IntKind.i64),(K1.int Go.IntKind.i64),(K1.int Go.IntKind.i64),(K1.int Go.IntKind.i64),(K1.int Go.IntKind.i64),(K1.int Go.IntKind.i64),(K1.int Go.IntKind.i64),(K1.int Go.IntKind.i64),(K1.int Go.IntKind.i64),(K1.int Go.IntKind.i64),(K1.int Go.IntKind.i64),(K1.int Go.IntKind.i64),K1.bool,K1.sl,K1.sl,K1.sl] 0 (List.getD (EC.encL qam r0.1.1) (Int.toNat r0.1.2.2.2.2.2.2.2.2.1) [])))<|
 (gdE (EC.isL qak (slOf (List.getD (List.getD (EC.encL qam r0.1.1) (Int.toNat r0.1.2.2.2.2.2.2.2.2.1) []) 21 C.ne)))<|
 (gdE (EC.isL qak (slOf (List.getD (List.getD (EC.encL qam r0.1.1) (Int.toNat r0.1.2.2.2.2.2.2.2.2.1) []) 22 C.ne)))<|
 (gdE (EC.isL qak (slOf (List.getD (List.getD (EC.encL qam r0.1.1) (Int.toNat r0.1.2.2.2.2.2.2.2.2.1) []) 23 C.ne)))<|
 (Option.bind (betS ((qtz (List.getD (List.getD (EC.encL qal r0.1.2.1) (Int.toNat r0.1.2.2.2.2.2.2.2.2.2.1) []) 0 C.ne)),((qgm (List.getD (List.getD (EC.encL qal r0.1.2.1) (Int.toNat r0.1.2.2.2.2.2.2.2.2.2.1) []) 1 C.ne)),((qgm (List.getD (List.getD (EC.encL qal r0.1.2.1) (Int.toNat r0.1.2.2.2.2.2.2.2.2.2.1) []) 2 C.ne)),((qgm (List.getD (List.getD (EC.encL qal r0.1.2.1) (Int.toNat r0.1.2.2.2.2.2.2.2.2.2.1) []) 3 C.ne)),((qgm (List.getD (List.getD (EC.encL qal r0.1.2.1) (Int.toNat r0.1.2.2.2.2.2.2.2.2.2.1) []) 4 C.ne)),((qgm (List.getD (List.getD (EC.encL qal r0.1.2.1) (Int.toNat r0.1.2.2.2.2.2.2.2.2.2.1) []) 5 C.ne)),((qgm (List.getD (List.getD (EC.encL qal r0.1.2.1) (Int.toNat r0.1.2.2.2.2.2.2.2.2.2.1) []) 6 C.ne)),((qgm (List.getD (List.getD (EC.encL qal r0.1.2.1) (Int.toNat r0.1.2.2.2.2.2.2.2.2.2.1) []) 7 C.ne)),((qgm (List.getD (List.getD (EC.encL qal r0.1.2.1) (Int.toNat r0.1.2.2.2.2.2.2.2.2.2.1) []) 8 C.ne)),((qgm (List.getD (List.getD (EC.encL qal r0.1.2.1) (Int.toNat r0.1.2.2.2.2.2.2.2.2.2.1) []) 9 C.ne)),(qgm (List.getD (List.getD (EC.encL qal r0.1.2.1) (Int.toNat r0.1.2.2.2.2.2.2.2.2.2.1) []) 10 C.ne)))))))))))) ((qgm (List.getD (List.getD (EC.encL qam r0.1.1) (Int.toNat r0.1.2.2.2.2.2.2.2.2.1) []) 8 C.ne)),((qgm (List.getD (List.getD (EC.encL qam r0.1.1) (Int.toNat r0.1.2.2.2.2.2.2.2.2.1) []) 9 C.ne)),((qgm (List.getD (List.getD (EC.encL qam r0.1.1) (Int.toNat r0.1.2.2.2.2.2.2.2.2.1) []) 10 C.ne)),((qgm (List.getD (List.getD (EC.encL qam r0.1.1) (Int.toNat r0.1.2.2.2.2.2.2.2.2.1) []) 11 C.ne)),((qgm (List.getD (List.getD (EC.encL qam r0.1.1) (Int.toNat r0.1.2.2.2.2.2.2.2.2.1) []) 12 C.ne)),((qgm (List.getD (List.getD (EC.encL qam r0.1.1) (Int.toNat r0.1.2.2.2.2.2.2.2.2.1) []) 13 C.ne)),(qgm (List.getD (List.getD (EC.encL qam r0.1.1) (Int.toNat r0.1.2.2.2.2.2.2.2.2.1) []) 14 C.ne)))))))) ((qgm (List.getD (List.getD (EC.encL qam r0.1.1) (Int.toNat r0.1.2.2.2.2.2.2.2.2.1) []) 16 C.ne)),((qgm (List.getD (List.getD (EC.encL qam r0.1.1) (Int.toNat r0.1.2.2.2.2.2.2.2.2.1) []) 17 C.ne)),((qgm (List.getD (List.getD (EC.encL qam r0.1.1) (Int.toNat r0.1.2.2.2.2.2.2.2.2.1) []) 18 C.ne)),((qgm (List.getD (List.getD (EC.encL qam r0.1.1) (Int.toNat r0.1.2.2.2.2.2.2.2.2.1) []) 19 C.ne)),((q5l (List.getD (List.getD (EC.encL qam r0.1.1) (Int.toNat r0.1.2.2.2.2.2.2.2.2.1) []) 20 C.ne)),((EC.decL qak (slOf (List.getD (List.getD (EC.encL qam r0.1.1) (Int.toNat r0.1.2.2.2.2.2.2.2.2.1) []) 21 C.ne))),((EC.decL qak (slOf (List.getD (List.getD (EC.encL qam r0.1.1) (Int.toNat r0.1.2.2.2.2.2.2.2.2.1) []) 22 C.ne))),(EC.decL qak (slOf (List.getD (List.getD (EC.encL qam r0.1.1) (Int.toNat r0.1.2.2.2.2.2.2.2.2.1) []) 23 C.ne)))))))))) (ite (true=true) (ite ((IntKind.wrap .i64 (r0.1.2.2.1 - (IntKind.wrap .i64 (60*(qgm (List.getD (List.getD (EC.encL qam r0.1.1) (Int.toNat r0.1.2.2.2.2.2.2.2.2.1) []) 15 C.ne))))))<(-68719476736)) (-68719476736) (IntKind.wrap .i64 (r0.1.2.2.1 - (IntKind.wrap .i64 (60*(qgm (List.getD (List.getD (EC.encL qam r0.1.1) (Int.toNat r0.1.2.2.2.2.2.2.2.2.1) []) 15 C.ne))))))) (ite ((-68719476736)<(IntKind.wrap .i64 (r0.1.2.2.1 - (IntKind.wrap .i64 (60*(qgm (List.getD (List.getD (EC.encL qam r0.1.1) (Int.toNat r0.1.2.2.2.2.2.2.2.2.1) []) 15 C.ne))))))) (-68719476736) (IntKind.wrap .i64 (r0.1.2.2.1 - (IntKind.wrap .i64 (60*(qgm (List.getD (List.getD (EC.encL qam r0.1.1) (Int.toNat r0.1.2.2.2.2.2.2.2.2.1) []) 15 C.ne)))))))) r0.1.2.2.2.1) fun r2 =>
 (brE (r2.2.1 != 0)
 ((qln r2.2.1 r0.1.2.2.2.2.2.2.2.2.1).bind fun r3 =>
 (gdE (EC.isL qam (EC.encL qam r0.1.1))<|
 (gdE (EC.isL qal (EC.encL qal r0.1.2.1))<|
 (gdE (EC.isL qak (EC.encL qak r2.1))<|
 (gdE (EC.isL qan (EC.encL qan r0.2.1))<|
 (gdE (EC.isL qan (EC.encL qan r0.2.2.2.2))<|
 (Option.bind (qib (EC.decL qam (EC.encL qam r0.1.1)) (EC.decL qal (EC.encL qal r0.1.2.1)) r0.1.2.2.1 r0.1.2.2.2.1 r0.1.2.2.2.2.1 r0.1.2.2.2.2.2.2.2.1 r0.1.2.2.2.2.2.2.2.2.1 (IntKind.wrap .i64 (60*(qgm (List.getD (List.getD (EC.encL qam r0.1.1) (Int.toNat r0.1.2.2.2.2.2.2.2.2.1) []) 15 C.ne)))) (EC.decL qak (EC.encL qak r2.1)) 0 (EC.decL qan (EC.encL qan r0.2.1)) r0.2.2.1.1 r0.2.2.1.2 r3.1 r3.2 (EC.decL qan (EC.encL qan r0.2.2.2.2))) fun r4 =>
 (gdE (EC.isL qam (EC.encL qam r4.1.1))<|
 (gdE (EC.isL qal (EC.encL qal r4.1.2.1))<|
 (gdE (EC.isL qan (EC.encL qan r4.2.1))<|
 (gdE (EC.isL qan (EC.encL qan r4.2.2.2.2))<|
 (qhx (EC.decL qam (EC.encL qam r4.1.1)) (EC.decL qal (EC.encL qal r4.1.2.1)) r4.1.2.2.1 r4.1.2.2.2.1 r4.1.2.2.2.2.1 r4.1.2.2.2.2.2.2.2.1 (IntKind.wrap .i64 (r4.1.2.2.2.2.2.2.2.2.1+1)) (EC.decL qan (EC.encL qan r4.2.1)) r4.2.2.1.1 r4.2.2.1.2 r4.2.2.2.1.1 r4.2.2.2.1.2 (EC.decL qan (EC.encL qan r4.2.2.2.2))))))))))))))
 (gdE (EC.isL qam (EC.encL qam r0.1.1))<|
 (gdE (EC.isL qal (EC.encL qal r0.1.2.1))<|
 (gdE (EC.isL qak (EC.encL qak r2.1))<|
 (gdE (EC.isL qan (EC.encL qan r0.2.1))<|
 (gdE (EC.isL qan (EC.encL qan r0.2.2.2.2))<|
 (Option.bind (qib (EC.decL qam (EC.encL qam r0.1.1)) (EC.decL qal (EC.encL qal r0.1.2.1)) r0.1.2.2.1 r0.1.2.2.2.1 r0.1.2.2.2.2.1 r0.1.2.2.2.2.2.2.2.1 r0.1.2.2.2.2.2.2.2.2.1 (IntKind.wrap .i64 (60*(qgm (List.getD (List.getD (EC.encL qam r0.1.1) (Int.toNat r0.1.2.2.2.2.2.2.2.2.1) []) 15 C.ne)))) (EC.decL qak (EC.encL qak r2.1)) 0 (EC.decL qan (EC.encL qan r0.2.1)) r0.2.2.1.1 r0.2.2.1.2 r0.2.2.2.1.1 r0.2.2.2.1.2 (EC.decL qan (EC.encL qan r0.2.2.2.2))) fun r3 =>
 (gdE (EC.isL qam (EC.encL qam r3.1.1))<|
 (gdE (EC.isL qal (EC.encL qal r3.1.2.1))<|
 (gdE (EC.isL qan (EC.encL qan r3.2.1))<|
 (gdE (EC.isL qan (EC.encL qan r3.2.2.2.2))<|
 (qhx (EC.decL qam (EC.encL qam r3.1.1)) (EC.decL qal (EC.encL qal r3.1.2.1)) r3.1.2.2.1 r3.1.2.2.2.1 r3.1.2.2.2.2.1 r3.1.2.2.2.2.2.2.2.1 (IntKind.wrap .i64 (r3.1.2.2.2.2.2.2.2.2.1+1)) (EC.decL qan (EC.encL qan r3.2.1)) r3.2.2.1.1 r3.2.2.1.2 r3.2.2.2.1.1 r3.2.2.2.1.2 (EC.decL qan (EC.encL qan r3.2.2.2.2))))))))))))))))))))))))))))))))))))
 (gdE (EC.isL qam (EC.encL qam events))<|
 (gdE (EC.isL qal (EC.encL qal zone))<|
 (gdE (EC.isL qan (EC.encL qan b0))<|
 (gdE (EC.isL qan (EC.encL qan b3))<|
 (some (((EC.decL qam (EC.encL qam events)),((EC.decL qal (EC.encL qal zone)),(from_,(to_,(k,((),((),(all,(i,false))))))))),((EC.decL qan (EC.encL qan b0)),((b1,b1_1),((b2,b2_1),(EC.decL qan (EC.encL qan b3))))))))))))
 (gdE (EC.isL qam (EC.encL qam events))<|
 (gdE (EC.isL qal (EC.encL qal zone))<|
 (gdE (EC.isL qan (EC.encL qan b0))<|
 (gdE (EC.isL qan (EC.encL qan b3))<|
 (some (((EC.decL qam (EC.encL qam events)),((EC.decL qal (EC.encL qal zone)),(from_,(to_,(k,((),((),(all,(i,false))))))))),((EC.decL qan (EC.encL qan b0)),((b1,b1_1),((b2,b2_1),(EC.decL qan (EC.encL qan b3))))))))))))
theorem qhz {events zone from_ to_ k all i b0 b1 b1_1 b2 b2_1 b3 r} (h:qi3 events zone from_ to_ k all i b0 b1 b1_1 b2 b2_1 b3=some r):qhx events zone from_ to_ k all i b0 b1 b1_1 b2 b2_1 b3=some r :=
 qhp (es:=qut) (hs:=[]) [qi5,qic] (by kernel_rfl) ⟨⟨_,rfl,rfl⟩,⟨_,rfl,rfl⟩,trivial⟩ trivial (by kernel_rfl) h
def qhy:=qj2 Tryz.prog lv X1 15 (qfp (cdF Tryz.f3) 15) qi2 qi0 (fun x=>qhx x.1.1 x.1.2.1 x.1.2.2.1 x.1.2.2.2.1 x.1.2.2.2.2.1 x.1.2.2.2.2.2.2.2.1 x.1.2.2.2.2.2.2.2.2 x.2.1 x.2.2.1.1 x.2.2.1.2 x.2.2.2.1.1 x.2.2.2.1.2 x.2.2.2.2) (fun _ _ h=>qho h)
def qhv:Cod (V×List B) Bool:=(cFstU (cPair (vC cBool) qhm))
def qis (events:(List S42)) (zone:(List S34)) (from_:Int) (to_:Int):Option Bool:=fS Tryz.prog lv X1 3 qht qhv (events,zone,from_,to_)
def qiu (events:(List S42)) (zone:(List S34)) (from_:Int) (to_:Int):Option Bool :=
 (gdE (EC.isL qam (EC.encL qam events))<|
 (gdE (EC.isL qal (EC.encL qal zone))<|
 ((fbOf_s (EC.decL qam (EC.encL qam events)) (EC.decL qal (EC.encL qal zone)) from_ to_).bind fun r0 =>
 (brE ((decide ((List.length (EC.encL qam events):Int)>20))==false)
 (brE (decide ((List.length (EC.encL qal zone):Int)>60))
 ((qln 2 (-1)).bind fun r1 =>
 (brE (r1.1==0)
 ((qmx from_ to_).bind fun r2 =>
 (gdE (EC.isL qam (EC.encL qam events))<|
 (gdE (EC.isL qal (EC.encL qal zone))<|
 (gdE (EC.isL qan (EC.encL qan r0.2))<|
 ((qii (EC.decL qam (EC.encL qam events)) (EC.decL qal (EC.encL qal zone)) from_ to_ r0.1.1 0 (EC.decL qan (EC.encL qan r0.2)) r0.1.2.1 r0.1.2.2 r2.1 r2.2).bind fun r3 =>
 (gdE (EC.isL qam (EC.encL qam r3.1.1))<|
 (gdE (EC.isL qal (EC.encL qal r3.1.2.1))<|
 (gdE (EC.isL qan (EC.encL qan r3.2.1))<|
 ((qhx (EC.decL qam (EC.encL qam r3.1.1)) (EC.decL qal (EC.encL qal r3.1.2.1)) r3.1.2.2.1 r3.1.2.2.2.1 r3.1.2.2.2.2.1 0 0 (EC.decL qan (EC.encL qan r3.2.1)) r3.2.2.1.1 r3.2.2.1.2 r3.2.2.2.1 r3.2.2.2.2 (EC.decL qan [])).bind fun r4 =>
 (brE (r4.2.2.2.1.1 != 0)
 (brE (((r4.2.2.1.1==r4.2.2.2.1.1)&&((r4.2.2.1.2==r4.2.2.2.1.2)&&true))==true)
 (brE ((((r4.1.2.2.2.2.1:Nat):Int)==0)==true)
 (Option.bind qlh fun r5 =>
 (some r5))
 (some false))
 (some false))
 (brE (decide (((r4.1.2.2.2.2.2.2.2.1:Nat):Int)>60))
 (brE ((r4.2.2.1.1==0)==true)
 (Option.bind qlh fun r5 =>
 (some r5))
 (some false))
 (brE ((r4.2.2.1.1==0)==true)
 (gdE (EC.isL qan (EC.encL qan r4.2.2.2.2))<|
 ((qna (EC.decL qan (EC.encL qan r4.2.2.2.2)) r4.1.2.2.1 r4.1.2.2.2.1 true).bind fun r5 =>
 (gdE (EC.isL qan (EC.encL qan r4.2.1))<|
 (gdE (EC.isL qan (EC.encL qan r5.2))<|
 ((qmr (EC.decL qan (EC.encL qan r4.2.1)) (EC.decL qan (EC.encL qan r5.2))).bind fun r6 =>
 (brE (r6==true)
 (Option.bind qlh fun r7 =>
 (some r7))
 (some false)))))))
 (some false)))))))))))))
 (gdE (EC.isL qam (EC.encL qam events))<|
 (gdE (EC.isL qal (EC.encL qal zone))<|
 (gdE (EC.isL qan (EC.encL qan r0.2))<|
 ((qii (EC.decL qam (EC.encL qam events)) (EC.decL qal (EC.encL qal zone)) from_ to_ r0.1.1 0 (EC.decL qan (EC.encL qan r0.2)) r0.1.2.1 r0.1.2.2 r1.1 r1.2).bind fun r2 =>
 (gdE (EC.isL qam (EC.encL qam r2.1.1))<|
 (gdE (EC.isL qal (EC.encL qal r2.1.2.1))<|
 (gdE (EC.isL qan (EC.encL qan r2.2.1))<|
 ((qhx (EC.decL qam (EC.encL qam r2.1.1)) (EC.decL qal (EC.encL qal r2.1.2.1)) r2.1.2.2.1 r2.1.2.2.2.1 r2.1.2.2.2.2.1 0 0 (EC.decL qan (EC.encL qan r2.2.1)) r2.2.2.1.1 r2.2.2.1.2 r2.2.2.2.1 r2.2.2.2.2 (EC.decL qan [])).bind fun r3 =>
 (brE (r3.2.2.2.1.1 != 0)
 (brE (((r3.2.2.1.1==r3.2.2.2.1.1)&&((r3.2.2.1.2==r3.2.2.2.1.2)&&true))==true)
 (brE ((((r3.1.2.2.2.2.1:Nat):Int)==0)==true)
 (Option.bind qlh fun r4 =>
 (some r4))
 (some false))
 (some false))
 (brE (decide (((r3.1.2.2.2.2.2.2.2.1:Nat):Int)>60))
 (brE ((r3.2.2.1.1==0)==true)
 (Option.bind qlh fun r4 =>
 (some r4))
 (some false))
 (brE ((r3.2.2.1.1==0)==true)
 (gdE (EC.isL qan (EC.encL qan r3.2.2.2.2))<|
 ((qna (EC.decL qan (EC.encL qan r3.2.2.2.2)) r3.1.2.2.1 r3.1.2.2.2.1 true).bind fun r4 =>
 (gdE (EC.isL qan (EC.encL qan r3.2.1))<|
 (gdE (EC.isL qan (EC.encL qan r4.2))<|
 ((qmr (EC.decL qan (EC.encL qan r3.2.1)) (EC.decL qan (EC.encL qan r4.2))).bind fun r5 =>
 (brE (r5==true)
 (Option.bind qlh fun r6 =>
 (some r6))
 (some false)))))))
 (some false))))))))))))))
 ((qmx from_ to_).bind fun r1 =>
 (gdE (EC.isL qam (EC.encL qam events))<|
 (gdE (EC.isL qal (EC.encL qal zone))<|
 (gdE (EC.isL qan (EC.encL qan r0.2))<|
 ((qii (EC.decL qam (EC.encL qam events)) (EC.decL qal (EC.encL qal zone)) from_ to_ r0.1.1 0 (EC.decL qan (EC.encL qan r0.2)) r0.1.2.1 r0.1.2.2 r1.1 r1.2).bind fun r2 =>
 (gdE (EC.isL qam (EC.encL qam r2.1.1))<|
 (gdE (EC.isL qal (EC.encL qal r2.1.2.1))<|
 (gdE (EC.isL qan (EC.encL qan r2.2.1))<|
 ((qhx (EC.decL qam (EC.encL qam r2.1.1)) (EC.decL qal (EC.encL qal r2.1.2.1)) r2.1.2.2.1 r2.1.2.2.2.1 r2.1.2.2.2.2.1 0 0 (EC.decL qan (EC.encL qan r2.2.1)) r2.2.2.1.1 r2.2.2.1.2 r2.2.2.2.1 r2.2.2.2.2 (EC.decL qan [])).bind fun r3 =>
 (brE (r3.2.2.2.1.1 != 0)
 (brE (((r3.2.2.1.1==r3.2.2.2.1.1)&&((r3.2.2.1.2==r3.2.2.2.1.2)&&true))==true)
 (brE ((((r3.1.2.2.2.2.1:Nat):Int)==0)==true)
 (Option.bind qlh fun r4 =>
 (some r4))
 (some false))
 (some false))
 (brE (decide (((r3.1.2.2.2.2.2.2.2.1:Nat):Int)>60))
 (brE ((r3.2.2.1.1==0)==true)
 (Option.bind qlh fun r4 =>
 (some r4))
 (some false))
 (brE ((r3.2.2.1.1==0)==true)
 (gdE (EC.isL qan (EC.encL qan r3.2.2.2.2))<|
 ((qna (EC.decL qan (EC.encL qan r3.2.2.2.2)) r3.1.2.2.1 r3.1.2.2.2.1 true).bind fun r4 =>
 (gdE (EC.isL qan (EC.encL qan r3.2.1))<|
 (gdE (EC.isL qan (EC.encL qan r4.2))<|
 ((qmr (EC.decL qan (EC.encL qan r3.2.1)) (EC.decL qan (EC.encL qan r4.2))).bind fun r5 =>
 (brE (r5==true)
 (Option.bind qlh fun r6 =>
 (some r6))
 (some false)))))))
 (some false))))))))))))))
 ((qln 2 (-1)).bind fun r1 =>
 (brE (r1.1==0)
 ((qmx from_ to_).bind fun r2 =>
 (gdE (EC.isL qam (EC.encL qam events))<|
 (gdE (EC.isL qal (EC.encL qal zone))<|
 (gdE (EC.isL qan (EC.encL qan r0.2))<|
 ((qii (EC.decL qam (EC.encL qam events)) (EC.decL qal (EC.encL qal zone)) from_ to_ r0.1.1 0 (EC.decL qan (EC.encL qan r0.2)) r0.1.2.1 r0.1.2.2 r2.1 r2.2).bind fun r3 =>
 (gdE (EC.isL qam (EC.encL qam r3.1.1))<|
 (gdE (EC.isL qal (EC.encL qal r3.1.2.1))<|
 (gdE (EC.isL qan (EC.encL qan r3.2.1))<|
 ((qhx (EC.decL qam (EC.encL qam r3.1.1)) (EC.decL qal (EC.encL qal r3.1.2.1)) r3.1.2.2.1 r3.1.2.2.2.1 r3.1.2.2.2.2.1 0 0 (EC.decL qan (EC.encL qan r3.2.1)) r3.2.2.1.1 r3.2.2.1.2 r3.2.2.2.1 r3.2.2.2.2 (EC.decL qan [])).bind fun r4 =>
 (brE (r4.2.2.2.1.1 != 0)
 (brE (((r4.2.2.1.1==r4.2.2.2.1.1)&&((r4.2.2.1.2==r4.2.2.2.1.2)&&true))==true)
 (brE ((((r4.1.2.2.2.2.1:Nat):Int)==0)==true)
 (Option.bind qlh fun r5 =>
 (some r5))
 (some false))
 (some false))
 (brE (decide (((r4.1.2.2.2.2.2.2.2.1:Nat):Int)>60))
 (brE ((r4.2.2.1.1==0)==true)
 (Option.bind qlh fun r5 =>
 (some r5))
 (some false))
 (brE ((r4.2.2.1.1==0)==true)
 (gdE (EC.isL qan (EC.encL qan r4.2.2.2.2))<|
 ((qna (EC.decL qan (EC.encL qan r4.2.2.2.2)) r4.1.2.2.1 r4.1.2.2.2.1 true).bind fun r5 =>
 (gdE (EC.isL qan (EC.encL qan r4.2.1))<|
 (gdE (EC.isL qan (EC.encL qan r5.2))<|
 ((qmr (EC.decL qan (EC.encL qan r4.2.1)) (EC.decL qan (EC.encL qan r5.2))).bind fun r6 =>
 (brE (r6==true)
 (Option.bind qlh fun r7 =>
 (some r7))
 (some false)))))))
 (some false)))))))))))))
 (gdE (EC.isL qam (EC.encL qam events))<|
 (gdE (EC.isL qal (EC.encL qal zone))<|
 (gdE (EC.isL qan (EC.encL qan r0.2))<|
 ((qii (EC.decL qam (EC.encL qam events)) (EC.decL qal (EC.encL qal zone)) from_ to_ r0.1.1 0 (EC.decL qan (EC.encL qan r0.2)) r0.1.2.1 r0.1.2.2 r1.1 r1.2).bind fun r2 =>
 (gdE (EC.isL qam (EC.encL qam r2.1.1))<|
 (gdE (EC.isL qal (EC.encL qal r2.1.2.1))<|
 (gdE (EC.isL qan (EC.encL qan r2.2.1))<|
 ((qhx (EC.decL qam (EC.encL qam r2.1.1)) (EC.decL qal (EC.encL qal r2.1.2.1)) r2.1.2.2.1 r2.1.2.2.2.1 r2.1.2.2.2.2.1 0 0 (EC.decL qan (EC.encL qan r2.2.1)) r2.2.2.1.1 r2.2.2.1.2 r2.2.2.2.1 r2.2.2.2.2 (EC.decL qan [])).bind fun r3 =>
 (brE (r3.2.2.2.1.1 != 0)
 (brE (((r3.2.2.1.1==r3.2.2.2.1.1)&&((r3.2.2.1.2==r3.2.2.2.1.2)&&true))==true)
 (brE ((((r3.1.2.2.2.2.1:Nat):Int)==0)==true)
 (Option.bind qlh fun r4 =>
 (some r4))
 (some false))
 (some false))
 (brE (decide (((r3.1.2.2.2.2.2.2.2.1:Nat):Int)>60))
 (brE ((r3.2.2.1.1==0)==true)
 (Option.bind qlh fun r4 =>
 (some r4))
 (some false))
 (brE ((r3.2.2.1.1==0)==true)
 (gdE (EC.isL qan (EC.encL qan r3.2.2.2.2))<|
 ((qna (EC.decL qan (EC.encL qan r3.2.2.2.2)) r3.1.2.2.1 r3.1.2.2.2.1 true).bind fun r4 =>
 (gdE (EC.isL qan (EC.encL qan r3.2.1))<|
 (gdE (EC.isL qan (EC.encL qan r4.2))<|
 ((qmr (EC.decL qan (EC.encL qan r3.2.1)) (EC.decL qan (EC.encL qan r4.2))).bind fun r5 =>
 (brE (r5==true)
 (Option.bind qlh fun r6 =>
 (some r6))
 (some false)))))))
 (some false))))))))))))))))))
theorem qhw {events zone from_ to_ r} (h:qiu events zone from_ to_=some r):qis events zone from_ to_=some r :=
 qbx (es:=qut) (hs:=[]) [qij,qhy] Tryz.func3 rfl (by kernel_rfl) rfl (by kernel_rfl) (by kernel_rfl) ⟨⟨_,rfl,rfl⟩,⟨_,rfl,rfl⟩,trivial⟩ trivial (by kernel_rfl) h
end
end Go.Proofs.YtjlkjiifkganoaaGreat
