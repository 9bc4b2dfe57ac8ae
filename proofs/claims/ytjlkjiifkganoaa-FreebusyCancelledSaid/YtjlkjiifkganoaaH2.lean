/- Functions of the program as plain functions: made by program from the machine. -/
import Derived.Test.YtjlkjiifkganoaaZ27
namespace Go.Proofs.Ytjlkjiifkganoaa
set_option linter.unusedSimpArgs false
open Go.RowKit
set_option maxRecDepth 100000
noncomputable section
def q3g:=(qhl (vC (cInt .i64)) (qhn (vC (cInt .i64))))
def q3h:Cod (V×List B) (Int×Int):=(cFstU (cPair (vAgg (qhl (vC (cInt .i64)) (qhn (vC (cInt .i64))))) qhm))
def q3k (code:Int) (at_:Int):Option (Int×Int):=fS Try.prog lv X1 7 q3g q3h (code,at_)
def q3l (code:Int) (at_:Int):Option (Int×Int) :=
 (some (code,at_))
theorem q3j {code at_ r} (h:q3l code at_=some r):q3k code at_=some r :=
 qbx (es:=tab1) (hs:=[]) [] Try.func7 rfl (by kernel_rfl) rfl (by kernel_rfl) (by kernel_rfl) trivial trivial (by kernel_rfl) h
def q3i:=entS Try.prog lv X1 7 [] q3g q3h (fun x=>q3k x.1 x.2) (fun _ _ h=>qbw h)
def qu5:=q3i::tab1
def q3o:Cod (List V) Unit:=qhm
def q3p:Cod (V×List B) (Int×Int):=(cFstU (cPair (vAgg (qhl (vC (cInt .i64)) (qhn (vC (cInt .i64))))) qhm))
def q3s :Option (Int×Int):=fS Try.prog lv X1 13 q3o q3p ()
def q3t :Option (Int×Int) :=
 (some (0,0))
theorem q3r {r} (h:q3t =some r):q3s =some r :=
 qbx (es:=qu5) (hs:=[]) [] Try.func13 rfl (by kernel_rfl) rfl (by kernel_rfl) (by kernel_rfl) trivial trivial (by kernel_rfl) h
def q3q:=entS Try.prog lv X1 13 [] q3o q3p (fun x=>q3s ) (fun _ _ h=>qbw h)
def qu6:=q3q::qu5
def q3a:=(qhn (vAgg (qhl (vC (cInt .i64)) (qhn (vC (cInt .i64))))))
def q3b:Cod (V×List B) Bool:=(cFstU (cPair (vC cBool) qhm))
def q3e (f_Code:Int) (f_Index:Int):Option Bool:=fS Try.prog lv X1 9 q3a q3b (f_Code,f_Index)
def q3f (f_Code:Int) (f_Index:Int):Option Bool :=
 (some (f_Code != 0))
theorem q3d {f_Code f_Index r} (h:q3f f_Code f_Index=some r):q3e f_Code f_Index=some r :=
 qbx (es:=qu6) (hs:=[]) [] Try.func9 rfl (by kernel_rfl) rfl (by kernel_rfl) (by kernel_rfl) trivial trivial (by kernel_rfl) h
def q3c:=entS Try.prog lv X1 9 [] q3a q3b (fun x=>q3e x.1 x.2) (fun _ _ h=>qbw h)
def qu4:=q3c::qu6
def q3u:=(qhn (vC (cInt .i64)))
def q3v:Cod (V×List B) Bool:=(cFstU (cPair (vC cBool) qhm))
def q3y (t:Int):Option Bool:=fS Try.prog lv X1 17 q3u q3v t
def q3z (t:Int):Option Bool :=
 (brE ((decide (t≥(-68719476736)))==true)
 (some (decide (t≤68719476736)))
 (some false))
theorem q3x {t r} (h:q3z t=some r):q3y t=some r :=
 qbx (es:=qu4) (hs:=[]) [] Try.func17 rfl (by kernel_rfl) rfl (by kernel_rfl) (by kernel_rfl) trivial trivial (by kernel_rfl) h
def q3w:=entS Try.prog lv X1 17 [] q3u q3v (fun x=>q3y x) (fun _ _ h=>qbw h)
def qu7:=q3w::qu4
def qdz:=(qhn (vC (cSl q11q)))
def qe9:=sLS [2,9,10,11] (qhl (vPtr 0 0) (qhl (vC (cSl q11q)) (qhl (vC (cInt .i64)) (qhn (vC (cInt .i64)))))) (qhn (qkg (bBox (qhl (vC (cInt .i64)) (qhn (vC (cInt .i64))))))) [false] [] (by decide) (fun _=>rfl)
def qe8:=sLS [2,9,10,11,12] (qhl (vPtr 0 0) (qhl (vC (cSl q11q)) (qhl (vC (cInt .i64)) (qhl (vC (cInt .i64)) (qhn (vC cBool)))))) (qhn (qkg (bBox (qhl (vC (cInt .i64)) (qhn (vC (cInt .i64))))))) [false] [] (by decide) (fun _=>rfl)
def qe7:=sLS [2] (qhn (vPtr 0 0)) (qhn (qkg (bBox (qhl (vC (cInt .i64)) (qhn (vC (cInt .i64))))))) [false] [] (by decide) (fun _=>rfl)
def qe6:=oOr 1 qe7 (oAt 2 qe8) (fun x=>(by decide:(2:Nat)≠1))
def qe3 (t9:(List S40)) (t10:Int) (t11:Int) (b0:Int) (b0_1:Int):Option ((Unit×(Int×Int))⊕((Unit×(List S40)×Int×Int×Bool)×(Int×Int))):=lS Try.prog lv X1 31 37 (qfp (cdF Try.f31) 4) qe9 qe6 (((),t9,t10,t11),(b0,b0_1))
def qea (t9:(List S40)) (t10:Int) (t11:Int) (b0:Int) (b0_1:Int):Option ((Unit×(Int×Int))⊕((Unit×(List S40)×Int×Int×Bool)×(Int×Int))) :=
 (brE (decide (t11<t10))
 (gdE (decide (0≤t11))<|
 (gdE ((decide ((Int.toNat t11)<(List.length (EC.encL q11q t9))))&&(isE [(K1.int Go.IntKind.i64),(K1.int Go.IntKind.i64)] 0 (List.getD (EC.encL q11q t9) (Int.toNat t11) [])))<|
 ((q3y (qgm (List.getD (List.getD (EC.encL q11q t9) (Int.toNat t11) []) 0 C.ne))).bind fun r0 =>
 (brE ((!r0)==false)
 ((q3y (qgm (List.getD (List.getD (EC.encL q11q t9) (Int.toNat t11) []) 1 C.ne))).bind fun r1 =>
 (brE (!r1)
 ((q3k 3 t11).bind fun r2 =>
 (some (.inl ((),(r2.1,r2.2)))))
 (brE (decide ((qgm (List.getD (List.getD (EC.encL q11q t9) (Int.toNat t11) []) 0 C.ne))>(qgm (List.getD (List.getD (EC.encL q11q t9) (Int.toNat t11) []) 1 C.ne))))
 ((q3k 19 t11).bind fun r2 =>
 (some (.inl ((),(r2.1,r2.2)))))
 (gdE (EC.isL q11q (EC.encL q11q t9))<|
 (qe3 (EC.decL q11q (EC.encL q11q t9)) t10 (IntKind.wrap .i64 (t11+1)) b0 b0_1)))))
 ((q3k 3 t11).bind fun r1 =>
 (some (.inl ((),(r1.1,r1.2)))))))))
 (gdE (EC.isL q11q (EC.encL q11q t9))<|
 (some (.inr (((),((EC.decL q11q (EC.encL q11q t9)),(t10,(t11,false)))),(b0,b0_1))))))
theorem qe5 {t9 t10 t11 b0 b0_1 r} (h:qea t9 t10 t11 b0 b0_1=some r):qe3 t9 t10 t11 b0 b0_1=some r :=
 qhp (es:=qu7) (hs:=[]) [] (by kernel_rfl) trivial trivial (by kernel_rfl) h
def qe4:=qj2 Try.prog lv X1 4 (qfp (cdF Try.f31) 4) qe9 qe6 (fun x=>qe3 x.1.2.1 x.1.2.2.1 x.1.2.2.2 x.2.1 x.2.2) (fun _ _ h=>qho h)
def qe0:Cod (V×List B) (Int×Int):=(cFstU (cPair (vAgg (qhl (vC (cInt .i64)) (qhn (vC (cInt .i64))))) qhm))
def qeb (l:(List S40)):Option (Int×Int):=fS Try.prog lv X1 31 qdz qe0 l
def qec (l:(List S40)):Option (Int×Int) :=
 (brE (decide ((List.length (EC.encL q11q l):Int)>500))
 ((q3k 2 (-1)).bind fun r0 =>
 (some (r0.1,r0.2)))
 (gdE (EC.isL q11q (EC.encL q11q l))<|
 ((qe3 (EC.decL q11q (EC.encL q11q l)) (List.length (EC.encL q11q l):Int) 0 0 0).bind fun r0 =>
 (Sum.elim (fun r1=>(some (r1.2.1,r1.2.2)))
 (fun r1=>(Option.bind q3s fun r2 =>
 (some (r2.1,r2.2)))) r0))))
theorem qe2 {l r} (h:qec l=some r):qeb l=some r :=
 qbx (es:=qu7) (hs:=[]) [qe4] Try.func31 rfl (by kernel_rfl) rfl (by kernel_rfl) (by kernel_rfl) ⟨⟨_,rfl,rfl⟩,trivial⟩ trivial (by kernel_rfl) h
def qe1:=entS Try.prog lv X1 31 [] qdz qe0 (fun x=>qeb x) (fun _ _ h=>qbw h)
def quv:=qe1::qu7
def qf3:=(qhl (vC (cInt .i64)) (qhn (vC (cInt .i64))))
def qf4:Cod (V×List B) (Int×Int):=(cFstU (cPair (vAgg (qhl (vC (cInt .i64)) (qhn (vC (cInt .i64))))) qhm))
def qf7 (from_:Int) (to_:Int):Option (Int×Int):=fS Try.prog lv X1 8 qf3 qf4 (from_,to_)
def qf8 (from_:Int) (to_:Int):Option (Int×Int) :=
 ((q3y from_).bind fun r0 =>
 (brE ((!r0)==false)
 ((q3y to_).bind fun r1 =>
 (brE (!r1)
 ((q3k 3 (-2)).bind fun r2 =>
 (some (r2.1,r2.2)))
 (brE (decide (from_>to_))
 ((q3k 19 (-2)).bind fun r2 =>
 (some (r2.1,r2.2)))
 (Option.bind q3s fun r2 =>
 (some (r2.1,r2.2))))))
 ((q3k 3 (-2)).bind fun r1 =>
 (some (r1.1,r1.2)))))
theorem qf6 {from_ to_ r} (h:qf8 from_ to_=some r):qf7 from_ to_=some r :=
 qbx (es:=quv) (hs:=[]) [] Try.func8 rfl (by kernel_rfl) rfl (by kernel_rfl) (by kernel_rfl) trivial trivial (by kernel_rfl) h
def qf5:=entS Try.prog lv X1 8 [] qf3 qf4 (fun x=>qf7 x.1 x.2) (fun _ _ h=>qbw h)
def quz:=qf5::quv
def qej:=(qhl (vC (cSl q11q)) (qhl (vC (cInt .i64)) (qhl (vC (cInt .i64)) (qhn (vC (cInt .i64))))))
def qes:=sLS [2,3,9,10,21,22,23] (qhl (vC (cInt .i64)) (qhl (vC (cInt .i64)) (qhl (vRow 0) (qhl (vC (cInt .i64)) (qhl (vRow 1) (qhl (vC (cInt .i64)) (qhn (vC (cInt .i64))))))))) (qhl (qkg (bRow q11q)) (qhn (qkg (bRow q11q)))) [false,false] [] (by decide) (fun _=>rfl)
def qer:=sLS [2,3,9,10,21,22,23,24] (qhl (vC (cInt .i64)) (qhl (vC (cInt .i64)) (qhl (vRow 0) (qhl (vC (cInt .i64)) (qhl (vRow 1) (qhl (vC (cInt .i64)) (qhl (vC (cInt .i64)) (qhn (vC cBool))))))))) (qhl (qkg (bRow q11q)) (qhn (qkg (bRow q11q)))) [false,false] [] (by decide) (fun _=>rfl)
def qeq:=oAt 2 qer
def qen (to_:Int) (length:Int) (out:Nat) (at_:Int) (t21:Nat) (t22:Int) (t23:Int) (b0:(List S40)) (b1:(List S40)):Option ((Int×Int×Nat×Int×Nat×Int×Int×Bool)×((List S40)×(List S40))):=lS Try.prog lv X1 32 48 (qfp (cdF Try.f32) 4) qes qeq ((to_,length,out,at_,t21,t22,t23),(b0,b1))
def qet (to_:Int) (length:Int) (out:Nat) (at_:Int) (t21:Nat) (t22:Int) (t23:Int) (b0:(List S40)) (b1:(List S40)):Option ((Int×Int×Nat×Int×Nat×Int×Int×Bool)×((List S40)×(List S40))) :=
 (brE (decide (t23<t22))
 (gdE ((decide (0≤t23))&&(decide (t23<((t21:Nat):Int))))<|
 (gdE ((decide ((Int.toNat t23)<(List.length (EC.encL q11q b1))))&&((List.length (List.getD (EC.encL q11q b1) (Int.toNat t23) []))==2))<|
 (gdE (isP [(K1.int Go.IntKind.i64),(K1.int Go.IntKind.i64)] 0 (List.getD (EC.encL q11q b1) (Int.toNat t23) []))<|
 (brE (decide ((IntKind.wrap .i64 ((ite (false=true) (ite ((qgm (List.getD (List.getD (EC.encL q11q b1) (Int.toNat t23) []) 0 C.ne))<to_) to_ (qgm (List.getD (List.getD (EC.encL q11q b1) (Int.toNat t23) []) 0 C.ne))) (ite (to_<(qgm (List.getD (List.getD (EC.encL q11q b1) (Int.toNat t23) []) 0 C.ne))) to_ (qgm (List.getD (List.getD (EC.encL q11q b1) (Int.toNat t23) []) 0 C.ne)))) - at_))≥length))
 (gdE ((((List.all [[(C.int Go.IntKind.i64 at_),(C.int Go.IntKind.i64 (ite (false=true) (ite ((qgm (List.getD (List.getD (EC.encL q11q b1) (Int.toNat t23) []) 0 C.ne))<to_) to_ (qgm (List.getD (List.getD (EC.encL q11q b1) (Int.toNat t23) []) 0 C.ne))) (ite (to_<(qgm (List.getD (List.getD (EC.encL q11q b1) (Int.toNat t23) []) 0 C.ne))) to_ (qgm (List.getD (List.getD (EC.encL q11q b1) (Int.toNat t23) []) 0 C.ne)))))]] (fun (el:(List C))=>((List.length el)==2)))&&(List.all (EC.encL q11q b0) (fun (el:(List C))=>((List.length el)==2))))&&(decide (((((out+(List.length [[(C.int Go.IntKind.i64 at_),(C.int Go.IntKind.i64 (ite (false=true) (ite ((qgm (List.getD (List.getD (EC.encL q11q b1) (Int.toNat t23) []) 0 C.ne))<to_) to_ (qgm (List.getD (List.getD (EC.encL q11q b1) (Int.toNat t23) []) 0 C.ne))) (ite (to_<(qgm (List.getD (List.getD (EC.encL q11q b1) (Int.toNat t23) []) 0 C.ne))) to_ (qgm (List.getD (List.getD (EC.encL q11q b1) (Int.toNat t23) []) 0 C.ne)))))]]))+((out+(List.length [[(C.int Go.IntKind.i64 at_),(C.int Go.IntKind.i64 (ite (false=true) (ite ((qgm (List.getD (List.getD (EC.encL q11q b1) (Int.toNat t23) []) 0 C.ne))<to_) to_ (qgm (List.getD (List.getD (EC.encL q11q b1) (Int.toNat t23) []) 0 C.ne))) (ite (to_<(qgm (List.getD (List.getD (EC.encL q11q b1) (Int.toNat t23) []) 0 C.ne))) to_ (qgm (List.getD (List.getD (EC.encL q11q b1) (Int.toNat t23) []) 0 C.ne)))))]])) / 4))+192)*16)≤281474976710656)))&&(decide ((out+(List.length [[(C.int Go.IntKind.i64 at_),(C.int Go.IntKind.i64 (ite (false=true) (ite ((qgm (List.getD (List.getD (EC.encL q11q b1) (Int.toNat t23) []) 0 C.ne))<to_) to_ (qgm (List.getD (List.getD (EC.encL q11q b1) (Int.toNat t23) []) 0 C.ne))) (ite (to_<(qgm (List.getD (List.getD (EC.encL q11q b1) (Int.toNat t23) []) 0 C.ne))) to_ (qgm (List.getD (List.getD (EC.encL q11q b1) (Int.toNat t23) []) 0 C.ne)))))]]))≤9223372036854775807)))<|
 (gdE (EC.isL q11q ((EC.encL q11q b0)++[[(C.int Go.IntKind.i64 at_),(C.int Go.IntKind.i64 (ite (false=true) (ite ((qgm (List.getD (List.getD (EC.encL q11q b1) (Int.toNat t23) []) 0 C.ne))<to_) to_ (qgm (List.getD (List.getD (EC.encL q11q b1) (Int.toNat t23) []) 0 C.ne))) (ite (to_<(qgm (List.getD (List.getD (EC.encL q11q b1) (Int.toNat t23) []) 0 C.ne))) to_ (qgm (List.getD (List.getD (EC.encL q11q b1) (Int.toNat t23) []) 0 C.ne)))))]]))<|
 (gdE (EC.isL q11q (EC.encL q11q b1))<|
 (qen to_ length (out+(List.length [[(C.int Go.IntKind.i64 at_),(C.int Go.IntKind.i64 (ite (false=true) (ite ((qgm (List.getD (List.getD (EC.encL q11q b1) (Int.toNat t23) []) 0 C.ne))<to_) to_ (qgm (List.getD (List.getD (EC.encL q11q b1) (Int.toNat t23) []) 0 C.ne))) (ite (to_<(qgm (List.getD (List.getD (EC.encL q11q b1) (Int.toNat t23) []) 0 C.ne))) to_ (qgm (List.getD (List.getD (EC.encL q11q b1) (Int.toNat t23) []) 0 C.ne)))))]])) (ite (true=true) (ite (at_<(qgm (List.getD (List.getD (EC.encL q11q b1) (Int.toNat t23) []) 1 C.ne))) (qgm (List.getD (List.getD (EC.encL q11q b1) (Int.toNat t23) []) 1 C.ne)) at_) (ite ((qgm (List.getD (List.getD (EC.encL q11q b1) (Int.toNat t23) []) 1 C.ne))<at_) (qgm (List.getD (List.getD (EC.encL q11q b1) (Int.toNat t23) []) 1 C.ne)) at_)) t21 t22 (IntKind.wrap .i64 (t23+1)) (EC.decL q11q ((EC.encL q11q b0)++[[(C.int Go.IntKind.i64 at_),(C.int Go.IntKind.i64 (ite (false=true) (ite ((qgm (List.getD (List.getD (EC.encL q11q b1) (Int.toNat t23) []) 0 C.ne))<to_) to_ (qgm (List.getD (List.getD (EC.encL q11q b1) (Int.toNat t23) []) 0 C.ne))) (ite (to_<(qgm (List.getD (List.getD (EC.encL q11q b1) (Int.toNat t23) []) 0 C.ne))) to_ (qgm (List.getD (List.getD (EC.encL q11q b1) (Int.toNat t23) []) 0 C.ne)))))]])) (EC.decL q11q (EC.encL q11q b1))))))
 (gdE (EC.isL q11q (EC.encL q11q b0))<|
 (gdE (EC.isL q11q (EC.encL q11q b1))<|
 (qen to_ length out (ite (true=true) (ite (at_<(qgm (List.getD (List.getD (EC.encL q11q b1) (Int.toNat t23) []) 1 C.ne))) (qgm (List.getD (List.getD (EC.encL q11q b1) (Int.toNat t23) []) 1 C.ne)) at_) (ite ((qgm (List.getD (List.getD (EC.encL q11q b1) (Int.toNat t23) []) 1 C.ne))<at_) (qgm (List.getD (List.getD (EC.encL q11q b1) (Int.toNat t23) []) 1 C.ne)) at_)) t21 t22 (IntKind.wrap .i64 (t23+1)) (EC.decL q11q (EC.encL q11q b0)) (EC.decL q11q (EC.encL q11q b1)))))))))
 (gdE (EC.isL q11q (EC.encL q11q b0))<|
 (gdE (EC.isL q11q (EC.encL q11q b1))<|
 (some ((to_,(length,(out,(at_,(t21,(t22,(t23,false))))))),((EC.decL q11q (EC.encL q11q b0)),(EC.decL q11q (EC.encL q11q b1))))))))
theorem qep {to_ length out at_ t21 t22 t23 b0 b1 r} (h:qet to_ length out at_ t21 t22 t23 b0 b1=some r):qen to_ length out at_ t21 t22 t23 b0 b1=some r :=
 qhp (es:=quz) (hs:=[]) [] (by kernel_rfl) trivial trivial (by kernel_rfl) h
def qeo:=qj2 Try.prog lv X1 4 (qfp (cdF Try.f32) 4) qes qeq (fun x=>qen x.1.1 x.1.2.1 x.1.2.2.1 x.1.2.2.2.1 x.1.2.2.2.2.1 x.1.2.2.2.2.2.1 x.1.2.2.2.2.2.2 x.2.1 x.2.2) (fun _ _ h=>qho h)
def qek:Cod (V×List B) (Nat×(List S40)):=(cPair (vRow 0) (qhn (bRow q11q)))
def qeu (l:(List S40)) (from_:Int) (to_:Int) (length:Int):Option (Nat×(List S40)):=fS Try.prog lv X1 32 qej qek (l,from_,to_,length)
def qev (l:(List S40)) (from_:Int) (to_:Int) (length:Int):Option (Nat×(List S40)) :=
 (gdE (EC.isL q11q (EC.encL q11q l))<|
 ((unionS (EC.decL q11q (EC.encL q11q l))).bind fun r0 =>
 (gdE ((((List.all [[(C.int Go.IntKind.i64 to_),(C.int Go.IntKind.i64 to_)]] (fun (el:(List C))=>((List.length el)==2)))&&(List.all (EC.encL q11q r0.2) (fun (el:(List C))=>((List.length el)==2))))&&(decide (((((r0.1+(List.length [[(C.int Go.IntKind.i64 to_),(C.int Go.IntKind.i64 to_)]]))+((r0.1+(List.length [[(C.int Go.IntKind.i64 to_),(C.int Go.IntKind.i64 to_)]])) / 4))+192)*16)≤281474976710656)))&&(decide ((r0.1+(List.length [[(C.int Go.IntKind.i64 to_),(C.int Go.IntKind.i64 to_)]]))≤9223372036854775807)))<|
 (gdE (EC.isL q11q ((EC.encL q11q r0.2)++[[(C.int Go.IntKind.i64 to_),(C.int Go.IntKind.i64 to_)]]))<|
 ((qen to_ length 0 from_ (r0.1+(List.length [[(C.int Go.IntKind.i64 to_),(C.int Go.IntKind.i64 to_)]])) (((r0.1+(List.length [[(C.int Go.IntKind.i64 to_),(C.int Go.IntKind.i64 to_)]])):Nat):Int) 0 (EC.decL q11q []) (EC.decL q11q ((EC.encL q11q r0.2)++[[(C.int Go.IntKind.i64 to_),(C.int Go.IntKind.i64 to_)]]))).bind fun r1 =>
 (gdE (EC.isL q11q (EC.encL q11q r1.2.1))<|
 (some (r1.1.2.2.1,(EC.decL q11q (EC.encL q11q r1.2.1))))))))))
theorem qem {l from_ to_ length r} (h:qev l from_ to_ length=some r):qeu l from_ to_ length=some r :=
 qbx (es:=quz) (hs:=[]) [qeo] Try.func32 rfl (by kernel_rfl) rfl (by kernel_rfl) (by kernel_rfl) ⟨⟨_,rfl,rfl⟩,trivial⟩ trivial (by kernel_rfl) h
def qel:=entS Try.prog lv X1 32 [] qej qek (fun x=>qeu x.1 x.2.1 x.2.2.1 x.2.2.2) (fun _ _ h=>qbw h)
def qux:=qel::quz
def qew:=(qhn (vC (cSl q11q)))
def qex:Cod (V×List B) ((Nat×(Int×Int))×(List S40)):=(cPair (vTup (qhl (vRow 0) (qhn (vAgg (qhl (vC (cInt .i64)) (qhn (vC (cInt .i64)))))))) (qhn (bRow q11q)))
def qf0 (l:(List S40)):Option ((Nat×(Int×Int))×(List S40)):=fS Try.prog lv X1 14 qew qex l
def qf1 (l:(List S40)):Option ((Nat×(Int×Int))×(List S40)) :=
 (gdE (EC.isL q11q (EC.encL q11q l))<|
 ((qeb (EC.decL q11q (EC.encL q11q l))).bind fun r0 =>
 ((q3e r0.1 r0.2).bind fun r1 =>
 (brE r1
 (some ((0,(r0.1,r0.2)),(EC.decL q11q [])))
 (gdE (EC.isL q11q (EC.encL q11q l))<|
 ((unionS (EC.decL q11q (EC.encL q11q l))).bind fun r2 =>
 (Option.bind q3s fun r3 =>
 (gdE (EC.isL q11q (EC.encL q11q r2.2))<|
 (some ((r2.1,(r3.1,r3.2)),(EC.decL q11q (EC.encL q11q r2.2))))))))))))
theorem qez {l r} (h:qf1 l=some r):qf0 l=some r :=
 qbx (es:=qux) (hs:=[]) [] Try.func14 rfl (by kernel_rfl) rfl (by kernel_rfl) (by kernel_rfl) trivial trivial (by kernel_rfl) h
def qey:=entS Try.prog lv X1 14 [] qew qex (fun x=>qf0 x) (fun _ _ h=>qbw h)
def quy:=qey::qux
def qed:=(qhl (vC (cSl q11q)) (qhl (vC (cInt .i64)) (qhl (vC (cInt .i64)) (qhn (vC (cInt .i64))))))
def qee:Cod (V×List B) ((Nat×(Int×Int))×(List S40)):=(cPair (vTup (qhl (vRow 0) (qhn (vAgg (qhl (vC (cInt .i64)) (qhn (vC (cInt .i64)))))))) (qhn (bRow q11q)))
def qeh (l:(List S40)) (from_:Int) (to_:Int) (length:Int):Option ((Nat×(Int×Int))×(List S40)):=fS Try.prog lv X1 15 qed qee (l,from_,to_,length)
def qei (l:(List S40)) (from_:Int) (to_:Int) (length:Int):Option ((Nat×(Int×Int))×(List S40)) :=
 (gdE (EC.isL q11q (EC.encL q11q l))<|
 ((qeb (EC.decL q11q (EC.encL q11q l))).bind fun r0 =>
 ((q3e r0.1 r0.2).bind fun r1 =>
 (brE r1
 (some ((0,(r0.1,r0.2)),(EC.decL q11q [])))
 ((qf7 from_ to_).bind fun r2 =>
 ((q3e r2.1 r2.2).bind fun r3 =>
 (brE r3
 (some ((0,(r2.1,r2.2)),(EC.decL q11q [])))
 (brE ((decide (length<1))==false)
 (brE (decide (length>68719476736))
 ((q3k 3 (-3)).bind fun r4 =>
 (some ((0,(r4.1,r4.2)),(EC.decL q11q []))))
 (gdE (EC.isL q11q (EC.encL q11q l))<|
 ((qeu (EC.decL q11q (EC.encL q11q l)) from_ to_ length).bind fun r4 =>
 (Option.bind q3s fun r5 =>
 (gdE (EC.isL q11q (EC.encL q11q r4.2))<|
 (some ((r4.1,(r5.1,r5.2)),(EC.decL q11q (EC.encL q11q r4.2)))))))))
 ((q3k 3 (-3)).bind fun r4 =>
 (some ((0,(r4.1,r4.2)),(EC.decL q11q []))))))))))))
theorem qeg {l from_ to_ length r} (h:qei l from_ to_ length=some r):qeh l from_ to_ length=some r :=
 qbx (es:=quy) (hs:=[]) [] Try.func15 rfl (by kernel_rfl) rfl (by kernel_rfl) (by kernel_rfl) trivial trivial (by kernel_rfl) h
def qef:=entS Try.prog lv X1 15 [] qed qee (fun x=>qeh x.1 x.2.1 x.2.2.1 x.2.2.2) (fun _ _ h=>qbw h)
def quw:=qef::quy
def qlp:=(qhl (vC (cInt .i64)) (qhl (vC (cInt .i64)) (qhn (vC (cInt .i64)))))
def qlq:Cod (V×List B) Bool:=(cFstU (cPair (vC cBool) qhm))
def qlt (n:Int) (low:Int) (high:Int):Option Bool:=fS Try.prog lv X1 5 qlp qlq (n,low,high)
def qlu (n:Int) (low:Int) (high:Int):Option Bool :=
 (brE ((decide (low≤n))==true)
 (some (decide (n≤high)))
 (some false))
theorem qls {n low high r} (h:qlu n low high=some r):qlt n low high=some r :=
 qbx (es:=quw) (hs:=[]) [] Try.func5 rfl (by kernel_rfl) rfl (by kernel_rfl) (by kernel_rfl) trivial trivial (by kernel_rfl) h
def qlr:=entS Try.prog lv X1 5 [] qlp qlq (fun x=>qlt x.1 x.2.1 x.2.2) (fun _ _ h=>qbw h)
def qv3:=qlr::quw
def qmf:=(qhl (vC (cSl q11q)) (qhn (vC (cSl q11q))))
def qmp:=sLS [0,1,5] (qhl (vC (cSl q11q)) (qhl (vC (cSl q11q)) (qhn (vC (cInt .i64))))) qhm [] [] (by decide) (fun _=>rfl)
def qmo:=sLS [0,1,5,14] (qhl (vC (cSl q11q)) (qhl (vC (cSl q11q)) (qhl (vC (cInt .i64)) (qhn (vC cBool))))) qhm [] [] (by decide) (fun _=>rfl)
def qmn:=sLS [4] (qhn (vC cBool)) qhm [] [] (by decide) (fun _=>rfl)
def qmm:=oOr 1 qmn (oAt 2 qmo) (fun x=>(by decide:(2:Nat)≠1))
def qmj (a:(List S40)) (b:(List S40)) (i:Int):Option ((Bool×Unit)⊕(((List S40)×(List S40)×Int×Bool)×Unit)):=lS Try.prog lv X1 16 26 (qfp (cdF Try.f16) 4) qmp qmm ((a,b,i),())
def qmq (a:(List S40)) (b:(List S40)) (i:Int):Option ((Bool×Unit)⊕(((List S40)×(List S40)×Int×Bool)×Unit)) :=
 (brE (decide (i<(List.length (EC.encL q11q a):Int)))
 (gdE (decide (0≤i))<|
 (gdE ((decide ((Int.toNat i)<(List.length (EC.encL q11q a))))&&(isE [(K1.int Go.IntKind.i64),(K1.int Go.IntKind.i64)] 0 (List.getD (EC.encL q11q a) (Int.toNat i) [])))<|
 (gdE (decide (0≤i))<|
 (gdE ((decide ((Int.toNat i)<(List.length (EC.encL q11q b))))&&(isE [(K1.int Go.IntKind.i64),(K1.int Go.IntKind.i64)] 0 (List.getD (EC.encL q11q b) (Int.toNat i) [])))<|
 (brE (!(((qgm (List.getD (List.getD (EC.encL q11q a) (Int.toNat i) []) 0 C.ne))==(qgm (List.getD (List.getD (EC.encL q11q b) (Int.toNat i) []) 0 C.ne)))&&(((qgm (List.getD (List.getD (EC.encL q11q a) (Int.toNat i) []) 1 C.ne))==(qgm (List.getD (List.getD (EC.encL q11q b) (Int.toNat i) []) 1 C.ne)))&&true)))
 (some (.inl (false,())))
 (gdE (EC.isL q11q (EC.encL q11q a))<|
 (gdE (EC.isL q11q (EC.encL q11q b))<|
 (qmj (EC.decL q11q (EC.encL q11q a)) (EC.decL q11q (EC.encL q11q b)) (IntKind.wrap .i64 (i+1))))))))))
 (gdE (EC.isL q11q (EC.encL q11q a))<|
 (gdE (EC.isL q11q (EC.encL q11q b))<|
 (some (.inr (((EC.decL q11q (EC.encL q11q a)),((EC.decL q11q (EC.encL q11q b)),(i,false))),()))))))
theorem qml {a b i r} (h:qmq a b i=some r):qmj a b i=some r :=
 qhp (es:=qv3) (hs:=[]) [] (by kernel_rfl) trivial trivial (by kernel_rfl) h
def qmk:=qj2 Try.prog lv X1 4 (qfp (cdF Try.f16) 4) qmp qmm (fun x=>qmj x.1.1 x.1.2.1 x.1.2.2) (fun _ _ h=>qho h)
def qmg:Cod (V×List B) Bool:=(cFstU (cPair (vC cBool) qhm))
def qmr (a:(List S40)) (b:(List S40)):Option Bool:=fS Try.prog lv X1 16 qmf qmg (a,b)
def qms (a:(List S40)) (b:(List S40)):Option Bool :=
 (brE ((List.length (EC.encL q11q a):Int) != (List.length (EC.encL q11q b):Int))
 (some false)
 (gdE (EC.isL q11q (EC.encL q11q a))<|
 (gdE (EC.isL q11q (EC.encL q11q b))<|
 ((qmj (EC.decL q11q (EC.encL q11q a)) (EC.decL q11q (EC.encL q11q b)) 0).bind fun r0 =>
 (Sum.elim (fun r1=>(some r1.1))
 (fun r1=>(some true)) r0)))))
theorem qmi {a b r} (h:qms a b=some r):qmr a b=some r :=
 qbx (es:=qv3) (hs:=[]) [qmk] Try.func16 rfl (by kernel_rfl) rfl (by kernel_rfl) (by kernel_rfl) ⟨⟨_,rfl,rfl⟩,trivial⟩ trivial (by kernel_rfl) h
def qmh:=entS Try.prog lv X1 16 [] qmf qmg (fun x=>qmr x.1 x.2) (fun _ _ h=>qbw h)
def qv6:=qmh::qv3
def qld:Cod (List V) Unit:=qhm
def qle:Cod (V×List B) Bool:=(cFstU (cPair (vC cBool) qhm))
def qlh :Option Bool:=fS Try.prog lv X1 6 qld qle ()
def qli :Option Bool :=
 ((qf0 (EC.decL q11q [[(C.int Go.IntKind.i64 5),(C.int Go.IntKind.i64 9)],[(C.int Go.IntKind.i64 1),(C.int Go.IntKind.i64 5)],[(C.int Go.IntKind.i64 20),(C.int Go.IntKind.i64 20)]])).bind fun r0 =>
 (gdE (EC.isL q11q (EC.encL q11q r0.2))<|
 ((qeh (EC.decL q11q (EC.encL q11q r0.2)) 0 20 5).bind fun r1 =>
 (brE ((r0.1.2.1==0)==true)
 (brE ((r1.1.2.1==0)==true)
 (gdE (EC.isL q11q (EC.encL q11q r0.2))<|
 ((qmr (EC.decL q11q (EC.encL q11q r0.2)) (EC.decL q11q [[(C.int Go.IntKind.i64 1),(C.int Go.IntKind.i64 9)]])).bind fun r2 =>
 (brE (r2==true)
 (gdE (EC.isL q11q (EC.encL q11q r1.2))<|
 ((qmr (EC.decL q11q (EC.encL q11q r1.2)) (EC.decL q11q [[(C.int Go.IntKind.i64 9),(C.int Go.IntKind.i64 20)]])).bind fun r3 =>
 (some r3)))
 (some false))))
 (some false))
 (some false)))))
theorem qlg {r} (h:qli =some r):qlh =some r :=
 qbx (es:=qv6) (hs:=[]) [] Try.func6 rfl (by kernel_rfl) rfl (by kernel_rfl) (by kernel_rfl) trivial trivial (by kernel_rfl) h
def qlf:=entS Try.prog lv X1 6 [] qld qle (fun x=>qlh ) (fun _ _ h=>qbw h)
def qv1:=qlf::qv6
structure S149 where
 Address:ByteArray
 State:Int
def q11o:EC S149 where
 enc x:=[.str x.Address,.int .i64 x.State]
 dec c:=⟨qtz (c.getD 0 .ne),qgm (c.getD 1 .ne)⟩
 is c:=isE [.str,.int .i64] 0 c
 enc_dec h:=q9c h
 dec_enc x:=by rfl
 is_enc x:=by simp [isE,isK]
theorem q11r (x:S149):q11o.enc x=[.str x.Address,.int .i64 x.State]:=rfl
theorem q11w (xs:List S149) (n:Nat):isE [.str,.int .i64] 0 ((q11o.encL xs).getD n [])=decide (n<xs.length):=by
 by_cases h:n<xs.length
 ·simp only [EC.getD_lt _ _ h];simp [q11r,isE,isK,h]
 ·simp only [EC.getD_ge _ _ (Nat.not_lt.1 h)];simp [isE,isK,h]
theorem q10n (xs:List S149) (n:Nat):qtz (((q11o.encL xs).getD n []).getD 0 .ne)=(xs.getD n (q11o.dec [])).Address:=by
 by_cases h:n<xs.length
 ·simp only [EC.getD_lt _ _ h];simp [q11r,h,qtz,qgm,q5l,slOf,List.getD_eq_getElem?_getD]
 ·simp only [EC.getD_ge _ _ (Nat.not_lt.1 h)];simp [Nat.not_lt.1 h,q11o,qtz,qgm,q5l,slOf,List.getD_eq_getElem?_getD,EC.decL,EC.encL]
theorem q10o (xs:List S149) (n:Nat):qgm (((q11o.encL xs).getD n []).getD 1 .ne)=(xs.getD n (q11o.dec [])).State:=by
 by_cases h:n<xs.length
 ·simp only [EC.getD_lt _ _ h];simp [q11r,h,qtz,qgm,q5l,slOf,List.getD_eq_getElem?_getD]
 ·simp only [EC.getD_ge _ _ (Nat.not_lt.1 h)];simp [Nat.not_lt.1 h,q11o,qtz,qgm,q5l,slOf,List.getD_eq_getElem?_getD,EC.decL,EC.encL]
theorem q12q (a0:ByteArray) (a1:Int):([.str a0,.int .i64 a1]:List C)=q11o.enc (⟨a0,a1⟩:S149):=rfl
theorem q10k (xs:List S149) (a0:ByteArray) (a1:Int):q11o.encL xs++[[.str a0,.int .i64 a1]]=q11o.encL (xs++[(⟨a0,a1⟩:S149)]):=by rw [q12q];simp [EC.encL]
theorem q10h (xs:List S149):(q11o.encL xs).all (fun (el:List C)=>el.length==2)=true:=by induction xs with|nil=>rfl|cons x xs ih=>first|(simp [EC.encL,q11r];done)|simpa [EC.encL,q11r] using ih
theorem q12s (xs:List S149) (n:Nat) (a0:ByteArray) (a1:Int):(q11o.encL xs).set n (splice ((q11o.encL xs).getD n []) 0 [.str a0,.int .i64 a1])=q11o.encL (xs.set n ({ xs.getD n (q11o.dec []) with Address:=a0,State:=a1 })):=by
 by_cases h:n<xs.length
 ·rw [EC.getD_lt _ _ h];simp [EC.encL,List.map_set,q11r,splice,List.getD_eq_getElem?_getD,h]
 ·simp [EC.encL,List.set_eq_of_length_le,Nat.not_lt.1 h]
theorem q12r (xs:List S149) (n:Nat) (a0:ByteArray):(q11o.encL xs).set n (splice ((q11o.encL xs).getD n []) 0 [.str a0])=q11o.encL (xs.set n ({ xs.getD n (q11o.dec []) with Address:=a0 })):=by
 by_cases h:n<xs.length
 ·rw [EC.getD_lt _ _ h];simp [EC.encL,List.map_set,q11r,splice,List.getD_eq_getElem?_getD,h]
 ·simp [EC.encL,List.set_eq_of_length_le,Nat.not_lt.1 h]
theorem q12t (xs:List S149) (n:Nat) (a1:Int):(q11o.encL xs).set n (splice ((q11o.encL xs).getD n []) 1 [.int .i64 a1])=q11o.encL (xs.set n ({ xs.getD n (q11o.dec []) with State:=a1 })):=by
 by_cases h:n<xs.length
 ·rw [EC.getD_lt _ _ h];simp [EC.encL,List.map_set,q11r,splice,List.getD_eq_getElem?_getD,h]
 ·simp [EC.encL,List.set_eq_of_length_le,Nat.not_lt.1 h]
def evz_ca:=(qhl (vAgg (qhl (vC cStr) (qhl (vC (cInt .i64)) (qhl (vC (cInt .i64)) (qhl (vC (cInt .i64)) (qhl (vC (cInt .i64)) (qhl (vC (cInt .i64)) (qhl (vC (cInt .i64)) (qhl (vC (cInt .i64)) (qhl (vC (cInt .i64)) (qhl (vC (cInt .i64)) (qhn (vC (cInt .i64)))))))))))))) (qhn (vEptr (qhl cStr (qhl (cInt .i64) (qhl (cInt .i64) (qhl cStr (qhl cStr (qhl cStr (qhl (cSl q11o) (qhl cStr (qhl (cInt .i64) (qhl (cInt .i64) (qhl (cInt .i64) (qhl (cInt .i64) (qhl (cInt .i64) (qhl (cInt .i64) (qhl (cInt .i64) (qhl (cInt .i64) (qhl (cInt .i64) (qhl (cInt .i64) (qhl (cInt .i64) (qhl (cInt .i64) (qhl cBool (qhl (cSl qak) (qhl (cSl qak) (qhn (cSl qak))))))))))))))))))))))))) 0)))
def evz_cr:Cod (V×List B) Bool:=(cFstU (cPair (vC cBool) qhm))
def evz_s (z_Name:ByteArray) (z_Standard:Int) (z_Summer:Int) (z_Begin_Month:Int) (z_Begin_Week:Int) (z_Begin_Weekday:Int) (z_Begin_Minute:Int) (z_End_Month:Int) (z_End_Week:Int) (z_End_Weekday:Int) (z_End_Minute:Int) (c1_0:ByteArray) (c1_1:Int) (c1_2:Int) (c1_3:ByteArray) (c1_4:ByteArray) (c1_5:ByteArray) (c1_6:(List S149)) (c1_7:ByteArray) (c1_8:Int) (c1_9:Int) (c1_10:Int) (c1_11:Int) (c1_12:Int) (c1_13:Int) (c1_14:Int) (c1_15:Int) (c1_16:Int) (c1_17:Int) (c1_18:Int) (c1_19:Int) (c1_20:Bool) (c1_21:(List Int)) (c1_22:(List Int)) (c1_23:(List Int)):Option Bool:=fS Try.prog lv X1 23 evz_ca evz_cr ((z_Name,z_Standard,z_Summer,z_Begin_Month,z_Begin_Week,z_Begin_Weekday,z_Begin_Minute,z_End_Month,z_End_Week,z_End_Weekday,z_End_Minute),(c1_0,c1_1,c1_2,c1_3,c1_4,c1_5,c1_6,c1_7,c1_8,c1_9,c1_10,c1_11,c1_12,c1_13,c1_14,c1_15,c1_16,c1_17,c1_18,c1_19,c1_20,c1_21,c1_22,c1_23))
def evz_t (z_Name:ByteArray) (z_Standard:Int) (z_Summer:Int) (z_Begin_Month:Int) (z_Begin_Week:Int) (z_Begin_Weekday:Int) (z_Begin_Minute:Int) (z_End_Month:Int) (z_End_Week:Int) (z_End_Weekday:Int) (z_End_Minute:Int) (c1_0:ByteArray) (c1_1:Int) (c1_2:Int) (c1_3:ByteArray) (c1_4:ByteArray) (c1_5:ByteArray) (c1_6:(List S149)) (c1_7:ByteArray) (c1_8:Int) (c1_9:Int) (c1_10:Int) (c1_11:Int) (c1_12:Int) (c1_13:Int) (c1_14:Int) (c1_15:Int) (c1_16:Int) (c1_17:Int) (c1_18:Int) (c1_19:Int) (c1_20:Bool) (c1_21:(List Int)) (c1_22:(List Int)) (c1_23:(List Int)):Option Bool :=
 (some (z_Name.toList==c1_7.toList))
theorem evz_eq {z_Name z_Standard z_Summer z_Begin_Month z_Begin_Week z_Begin_Weekday z_Begin_Minute z_End_Month z_End_Week z_End_Weekday z_End_Minute c1_0 c1_1 c1_2 c1_3 c1_4 c1_5 c1_6 c1_7 c1_8 c1_9 c1_10 c1_11 c1_12 c1_13 c1_14 c1_15 c1_16 c1_17 c1_18 c1_19 c1_20 c1_21 c1_22 c1_23 r} (h:evz_t z_Name z_Standard z_Summer z_Begin_Month z_Begin_Week z_Begin_Weekday z_Begin_Minute z_End_Month z_End_Week z_End_Weekday z_End_Minute c1_0 c1_1 c1_2 c1_3 c1_4 c1_5 c1_6 c1_7 c1_8 c1_9 c1_10 c1_11 c1_12 c1_13 c1_14 c1_15 c1_16 c1_17 c1_18 c1_19 c1_20 c1_21 c1_22 c1_23=some r):evz_s z_Name z_Standard z_Summer z_Begin_Month z_Begin_Week z_Begin_Weekday z_Begin_Minute z_End_Month z_End_Week z_End_Weekday z_End_Minute c1_0 c1_1 c1_2 c1_3 c1_4 c1_5 c1_6 c1_7 c1_8 c1_9 c1_10 c1_11 c1_12 c1_13 c1_14 c1_15 c1_16 c1_17 c1_18 c1_19 c1_20 c1_21 c1_22 c1_23=some r :=
 qbx (es:=qv1) (hs:=[]) [] Try.func23 rfl (by kernel_rfl) rfl (by kernel_rfl) (by kernel_rfl) trivial trivial (by kernel_rfl) h
def evz_e:=entS Try.prog lv X1 23 [] evz_ca evz_cr (fun x=>evz_s x.1.1 x.1.2.1 x.1.2.2.1 x.1.2.2.2.1 x.1.2.2.2.2.1 x.1.2.2.2.2.2.1 x.1.2.2.2.2.2.2.1 x.1.2.2.2.2.2.2.2.1 x.1.2.2.2.2.2.2.2.2.1 x.1.2.2.2.2.2.2.2.2.2.1 x.1.2.2.2.2.2.2.2.2.2.2 x.2.1 x.2.2.1 x.2.2.2.1 x.2.2.2.2.1 x.2.2.2.2.2.1 x.2.2.2.2.2.2.1 x.2.2.2.2.2.2.2.1 x.2.2.2.2.2.2.2.2.1 x.2.2.2.2.2.2.2.2.2.1 x.2.2.2.2.2.2.2.2.2.2.1 x.2.2.2.2.2.2.2.2.2.2.2.1 x.2.2.2.2.2.2.2.2.2.2.2.2.1 x.2.2.2.2.2.2.2.2.2.2.2.2.2.1 x.2.2.2.2.2.2.2.2.2.2.2.2.2.2.1 x.2.2.2.2.2.2.2.2.2.2.2.2.2.2.2.1 x.2.2.2.2.2.2.2.2.2.2.2.2.2.2.2.2.1 x.2.2.2.2.2.2.2.2.2.2.2.2.2.2.2.2.2.1 x.2.2.2.2.2.2.2.2.2.2.2.2.2.2.2.2.2.2.1 x.2.2.2.2.2.2.2.2.2.2.2.2.2.2.2.2.2.2.2.1 x.2.2.2.2.2.2.2.2.2.2.2.2.2.2.2.2.2.2.2.2.1 x.2.2.2.2.2.2.2.2.2.2.2.2.2.2.2.2.2.2.2.2.2.1 x.2.2.2.2.2.2.2.2.2.2.2.2.2.2.2.2.2.2.2.2.2.2.1 x.2.2.2.2.2.2.2.2.2.2.2.2.2.2.2.2.2.2.2.2.2.2.2.1 x.2.2.2.2.2.2.2.2.2.2.2.2.2.2.2.2.2.2.2.2.2.2.2.2) (fun _ _ h=>qbw h)
def qus:=evz_e::qv1
structure S47 where
 Name:ByteArray
 Standard:Int
 Summer:Int
 Begin_Month:Int
 Begin_Week:Int
 Begin_Weekday:Int
 Begin_Minute:Int
 End_Month:Int
 End_Week:Int
 End_Weekday:Int
 End_Minute:Int
def qan:EC S47 where
 enc x:=[.str x.Name,.int .i64 x.Standard,.int .i64 x.Summer,.int .i64 x.Begin_Month,.int .i64 x.Begin_Week,.int .i64 x.Begin_Weekday,.int .i64 x.Begin_Minute,.int .i64 x.End_Month,.int .i64 x.End_Week,.int .i64 x.End_Weekday,.int .i64 x.End_Minute]
 dec c:=⟨qtz (c.getD 0 .ne),qgm (c.getD 1 .ne),qgm (c.getD 2 .ne),qgm (c.getD 3 .ne),qgm (c.getD 4 .ne),qgm (c.getD 5 .ne),qgm (c.getD 6 .ne),qgm (c.getD 7 .ne),qgm (c.getD 8 .ne),qgm (c.getD 9 .ne),qgm (c.getD 10 .ne)⟩
 is c:=isE [.str,.int .i64,.int .i64,.int .i64,.int .i64,.int .i64,.int .i64,.int .i64,.int .i64,.int .i64,.int .i64] 0 c
 enc_dec h:=q9c h
 dec_enc x:=by rfl
 is_enc x:=by simp [isE,isK]
theorem q11t (x:S47):qan.enc x=[.str x.Name,.int .i64 x.Standard,.int .i64 x.Summer,.int .i64 x.Begin_Month,.int .i64 x.Begin_Week,.int .i64 x.Begin_Weekday,.int .i64 x.Begin_Minute,.int .i64 x.End_Month,.int .i64 x.End_Week,.int .i64 x.End_Weekday,.int .i64 x.End_Minute]:=rfl
theorem qgy (xs:List S47) (n:Nat):isE [.str,.int .i64,.int .i64,.int .i64,.int .i64,.int .i64,.int .i64,.int .i64,.int .i64,.int .i64,.int .i64] 0 ((qan.encL xs).getD n [])=decide (n<xs.length):=by
 by_cases h:n<xs.length
 ·simp only [EC.getD_lt _ _ h];simp [q11t,isE,isK,h]
 ·simp only [EC.getD_ge _ _ (Nat.not_lt.1 h)];simp [isE,isK,h]
theorem q37 (xs:List S47) (n:Nat):qtz (((qan.encL xs).getD n []).getD 0 .ne)=(xs.getD n (qan.dec [])).Name:=by
 by_cases h:n<xs.length
 ·simp only [EC.getD_lt _ _ h];simp [q11t,h,qtz,qgm,q5l,slOf,List.getD_eq_getElem?_getD]
 ·simp only [EC.getD_ge _ _ (Nat.not_lt.1 h)];simp [Nat.not_lt.1 h,qan,qtz,qgm,q5l,slOf,List.getD_eq_getElem?_getD,EC.decL,EC.encL]
theorem q38 (xs:List S47) (n:Nat):qgm (((qan.encL xs).getD n []).getD 1 .ne)=(xs.getD n (qan.dec [])).Standard:=by
 by_cases h:n<xs.length
 ·simp only [EC.getD_lt _ _ h];simp [q11t,h,qtz,qgm,q5l,slOf,List.getD_eq_getElem?_getD]
 ·simp only [EC.getD_ge _ _ (Nat.not_lt.1 h)];simp [Nat.not_lt.1 h,qan,qtz,qgm,q5l,slOf,List.getD_eq_getElem?_getD,EC.decL,EC.encL]
theorem q11g (xs:List S47) (n:Nat):qgm (((qan.encL xs).getD n []).getD 2 .ne)=(xs.getD n (qan.dec [])).Summer:=by
 by_cases h:n<xs.length
 ·simp only [EC.getD_lt _ _ h];simp [q11t,h,qtz,qgm,q5l,slOf,List.getD_eq_getElem?_getD]
 ·simp only [EC.getD_ge _ _ (Nat.not_lt.1 h)];simp [Nat.not_lt.1 h,qan,qtz,qgm,q5l,slOf,List.getD_eq_getElem?_getD,EC.decL,EC.encL]
theorem q11h (xs:List S47) (n:Nat):qgm (((qan.encL xs).getD n []).getD 3 .ne)=(xs.getD n (qan.dec [])).Begin_Month:=by
 by_cases h:n<xs.length
 ·simp only [EC.getD_lt _ _ h];simp [q11t,h,qtz,qgm,q5l,slOf,List.getD_eq_getElem?_getD]
 ·simp only [EC.getD_ge _ _ (Nat.not_lt.1 h)];simp [Nat.not_lt.1 h,qan,qtz,qgm,q5l,slOf,List.getD_eq_getElem?_getD,EC.decL,EC.encL]
theorem q11i (xs:List S47) (n:Nat):qgm (((qan.encL xs).getD n []).getD 4 .ne)=(xs.getD n (qan.dec [])).Begin_Week:=by
 by_cases h:n<xs.length
 ·simp only [EC.getD_lt _ _ h];simp [q11t,h,qtz,qgm,q5l,slOf,List.getD_eq_getElem?_getD]
 ·simp only [EC.getD_ge _ _ (Nat.not_lt.1 h)];simp [Nat.not_lt.1 h,qan,qtz,qgm,q5l,slOf,List.getD_eq_getElem?_getD,EC.decL,EC.encL]
theorem q11j (xs:List S47) (n:Nat):qgm (((qan.encL xs).getD n []).getD 5 .ne)=(xs.getD n (qan.dec [])).Begin_Weekday:=by
 by_cases h:n<xs.length
 ·simp only [EC.getD_lt _ _ h];simp [q11t,h,qtz,qgm,q5l,slOf,List.getD_eq_getElem?_getD]
 ·simp only [EC.getD_ge _ _ (Nat.not_lt.1 h)];simp [Nat.not_lt.1 h,qan,qtz,qgm,q5l,slOf,List.getD_eq_getElem?_getD,EC.decL,EC.encL]
theorem q11k (xs:List S47) (n:Nat):qgm (((qan.encL xs).getD n []).getD 6 .ne)=(xs.getD n (qan.dec [])).Begin_Minute:=by
 by_cases h:n<xs.length
 ·simp only [EC.getD_lt _ _ h];simp [q11t,h,qtz,qgm,q5l,slOf,List.getD_eq_getElem?_getD]
 ·simp only [EC.getD_ge _ _ (Nat.not_lt.1 h)];simp [Nat.not_lt.1 h,qan,qtz,qgm,q5l,slOf,List.getD_eq_getElem?_getD,EC.decL,EC.encL]
theorem q11l (xs:List S47) (n:Nat):qgm (((qan.encL xs).getD n []).getD 7 .ne)=(xs.getD n (qan.dec [])).End_Month:=by
 by_cases h:n<xs.length
 ·simp only [EC.getD_lt _ _ h];simp [q11t,h,qtz,qgm,q5l,slOf,List.getD_eq_getElem?_getD]
 ·simp only [EC.getD_ge _ _ (Nat.not_lt.1 h)];simp [Nat.not_lt.1 h,qan,qtz,qgm,q5l,slOf,List.getD_eq_getElem?_getD,EC.decL,EC.encL]
theorem q11m (xs:List S47) (n:Nat):qgm (((qan.encL xs).getD n []).getD 8 .ne)=(xs.getD n (qan.dec [])).End_Week:=by
 by_cases h:n<xs.length
 ·simp only [EC.getD_lt _ _ h];simp [q11t,h,qtz,qgm,q5l,slOf,List.getD_eq_getElem?_getD]
 ·simp only [EC.getD_ge _ _ (Nat.not_lt.1 h)];simp [Nat.not_lt.1 h,qan,qtz,qgm,q5l,slOf,List.getD_eq_getElem?_getD,EC.decL,EC.encL]
theorem q11n (xs:List S47) (n:Nat):qgm (((qan.encL xs).getD n []).getD 9 .ne)=(xs.getD n (qan.dec [])).End_Weekday:=by
 by_cases h:n<xs.length
 ·simp only [EC.getD_lt _ _ h];simp [q11t,h,qtz,qgm,q5l,slOf,List.getD_eq_getElem?_getD]
 ·simp only [EC.getD_ge _ _ (Nat.not_lt.1 h)];simp [Nat.not_lt.1 h,qan,qtz,qgm,q5l,slOf,List.getD_eq_getElem?_getD,EC.decL,EC.encL]
theorem q11f (xs:List S47) (n:Nat):qgm (((qan.encL xs).getD n []).getD 10 .ne)=(xs.getD n (qan.dec [])).End_Minute:=by
 by_cases h:n<xs.length
 ·simp only [EC.getD_lt _ _ h];simp [q11t,h,qtz,qgm,q5l,slOf,List.getD_eq_getElem?_getD]
 ·simp only [EC.getD_ge _ _ (Nat.not_lt.1 h)];simp [Nat.not_lt.1 h,qan,qtz,qgm,q5l,slOf,List.getD_eq_getElem?_getD,EC.decL,EC.encL]
theorem lit_47 (a0:ByteArray) (a1:Int) (a2:Int) (a3:Int) (a4:Int) (a5:Int) (a6:Int) (a7:Int) (a8:Int) (a9:Int) (a10:Int):([.str a0,.int .i64 a1,.int .i64 a2,.int .i64 a3,.int .i64 a4,.int .i64 a5,.int .i64 a6,.int .i64 a7,.int .i64 a8,.int .i64 a9,.int .i64 a10]:List C)=qan.enc (⟨a0,a1,a2,a3,a4,a5,a6,a7,a8,a9,a10⟩:S47):=rfl
theorem q20 (xs:List S47) (a0:ByteArray) (a1:Int) (a2:Int) (a3:Int) (a4:Int) (a5:Int) (a6:Int) (a7:Int) (a8:Int) (a9:Int) (a10:Int):qan.encL xs++[[.str a0,.int .i64 a1,.int .i64 a2,.int .i64 a3,.int .i64 a4,.int .i64 a5,.int .i64 a6,.int .i64 a7,.int .i64 a8,.int .i64 a9,.int .i64 a10]]=qan.encL (xs++[(⟨a0,a1,a2,a3,a4,a5,a6,a7,a8,a9,a10⟩:S47)]):=by rw [lit_47];simp [EC.encL]
theorem q1o (xs:List S47):(qan.encL xs).all (fun (el:List C)=>el.length==11)=true:=by induction xs with|nil=>rfl|cons x xs ih=>first|(simp [EC.encL,q11t];done)|simpa [EC.encL,q11t] using ih
theorem q13o (xs:List S47) (n:Nat) (a0:ByteArray) (a1:Int) (a2:Int) (a3:Int) (a4:Int) (a5:Int) (a6:Int) (a7:Int) (a8:Int) (a9:Int) (a10:Int):(qan.encL xs).set n (splice ((qan.encL xs).getD n []) 0 [.str a0,.int .i64 a1,.int .i64 a2,.int .i64 a3,.int .i64 a4,.int .i64 a5,.int .i64 a6,.int .i64 a7,.int .i64 a8,.int .i64 a9,.int .i64 a10])=qan.encL (xs.set n ({ xs.getD n (qan.dec []) with Name:=a0,Standard:=a1,Summer:=a2,Begin_Month:=a3,Begin_Week:=a4,Begin_Weekday:=a5,Begin_Minute:=a6,End_Month:=a7,End_Week:=a8,End_Weekday:=a9,End_Minute:=a10 })):=by
 by_cases h:n<xs.length
 ·rw [EC.getD_lt _ _ h];simp [EC.encL,List.map_set,q11t,splice,List.getD_eq_getElem?_getD,h]
 ·simp [EC.encL,List.set_eq_of_length_le,Nat.not_lt.1 h]
theorem qrz (xs:List S47) (n:Nat) (a0:ByteArray):(qan.encL xs).set n (splice ((qan.encL xs).getD n []) 0 [.str a0])=qan.encL (xs.set n ({ xs.getD n (qan.dec []) with Name:=a0 })):=by
 by_cases h:n<xs.length
 ·rw [EC.getD_lt _ _ h];simp [EC.encL,List.map_set,q11t,splice,List.getD_eq_getElem?_getD,h]
 ·simp [EC.encL,List.set_eq_of_length_le,Nat.not_lt.1 h]
theorem qs1 (xs:List S47) (n:Nat) (a1:Int):(qan.encL xs).set n (splice ((qan.encL xs).getD n []) 1 [.int .i64 a1])=qan.encL (xs.set n ({ xs.getD n (qan.dec []) with Standard:=a1 })):=by
 by_cases h:n<xs.length
 ·rw [EC.getD_lt _ _ h];simp [EC.encL,List.map_set,q11t,splice,List.getD_eq_getElem?_getD,h]
 ·simp [EC.encL,List.set_eq_of_length_le,Nat.not_lt.1 h]
theorem q13q (xs:List S47) (n:Nat) (a2:Int):(qan.encL xs).set n (splice ((qan.encL xs).getD n []) 2 [.int .i64 a2])=qan.encL (xs.set n ({ xs.getD n (qan.dec []) with Summer:=a2 })):=by
 by_cases h:n<xs.length
 ·rw [EC.getD_lt _ _ h];simp [EC.encL,List.map_set,q11t,splice,List.getD_eq_getElem?_getD,h]
 ·simp [EC.encL,List.set_eq_of_length_le,Nat.not_lt.1 h]
theorem q13s (xs:List S47) (n:Nat) (a3:Int) (a4:Int) (a5:Int) (a6:Int):(qan.encL xs).set n (splice ((qan.encL xs).getD n []) 3 [.int .i64 a3,.int .i64 a4,.int .i64 a5,.int .i64 a6])=qan.encL (xs.set n ({ xs.getD n (qan.dec []) with Begin_Month:=a3,Begin_Week:=a4,Begin_Weekday:=a5,Begin_Minute:=a6 })):=by
 by_cases h:n<xs.length
 ·rw [EC.getD_lt _ _ h];simp [EC.encL,List.map_set,q11t,splice,List.getD_eq_getElem?_getD,h]
 ·simp [EC.encL,List.set_eq_of_length_le,Nat.not_lt.1 h]
theorem q13r (xs:List S47) (n:Nat) (a3:Int):(qan.encL xs).set n (splice ((qan.encL xs).getD n []) 3 [.int .i64 a3])=qan.encL (xs.set n ({ xs.getD n (qan.dec []) with Begin_Month:=a3 })):=by
 by_cases h:n<xs.length
 ·rw [EC.getD_lt _ _ h];simp [EC.encL,List.map_set,q11t,splice,List.getD_eq_getElem?_getD,h]
 ·simp [EC.encL,List.set_eq_of_length_le,Nat.not_lt.1 h]
theorem q13t (xs:List S47) (n:Nat) (a4:Int):(qan.encL xs).set n (splice ((qan.encL xs).getD n []) 4 [.int .i64 a4])=qan.encL (xs.set n ({ xs.getD n (qan.dec []) with Begin_Week:=a4 })):=by
 by_cases h:n<xs.length
 ·rw [EC.getD_lt _ _ h];simp [EC.encL,List.map_set,q11t,splice,List.getD_eq_getElem?_getD,h]
 ·simp [EC.encL,List.set_eq_of_length_le,Nat.not_lt.1 h]
theorem q13u (xs:List S47) (n:Nat) (a5:Int):(qan.encL xs).set n (splice ((qan.encL xs).getD n []) 5 [.int .i64 a5])=qan.encL (xs.set n ({ xs.getD n (qan.dec []) with Begin_Weekday:=a5 })):=by
 by_cases h:n<xs.length
 ·rw [EC.getD_lt _ _ h];simp [EC.encL,List.map_set,q11t,splice,List.getD_eq_getElem?_getD,h]
 ·simp [EC.encL,List.set_eq_of_length_le,Nat.not_lt.1 h]
theorem q13v (xs:List S47) (n:Nat) (a6:Int):(qan.encL xs).set n (splice ((qan.encL xs).getD n []) 6 [.int .i64 a6])=qan.encL (xs.set n ({ xs.getD n (qan.dec []) with Begin_Minute:=a6 })):=by
 by_cases h:n<xs.length
 ·rw [EC.getD_lt _ _ h];simp [EC.encL,List.map_set,q11t,splice,List.getD_eq_getElem?_getD,h]
 ·simp [EC.encL,List.set_eq_of_length_le,Nat.not_lt.1 h]
theorem q13x (xs:List S47) (n:Nat) (a7:Int) (a8:Int) (a9:Int) (a10:Int):(qan.encL xs).set n (splice ((qan.encL xs).getD n []) 7 [.int .i64 a7,.int .i64 a8,.int .i64 a9,.int .i64 a10])=qan.encL (xs.set n ({ xs.getD n (qan.dec []) with End_Month:=a7,End_Week:=a8,End_Weekday:=a9,End_Minute:=a10 })):=by
 by_cases h:n<xs.length
 ·rw [EC.getD_lt _ _ h];simp [EC.encL,List.map_set,q11t,splice,List.getD_eq_getElem?_getD,h]
 ·simp [EC.encL,List.set_eq_of_length_le,Nat.not_lt.1 h]
theorem q13w (xs:List S47) (n:Nat) (a7:Int):(qan.encL xs).set n (splice ((qan.encL xs).getD n []) 7 [.int .i64 a7])=qan.encL (xs.set n ({ xs.getD n (qan.dec []) with End_Month:=a7 })):=by
 by_cases h:n<xs.length
 ·rw [EC.getD_lt _ _ h];simp [EC.encL,List.map_set,q11t,splice,List.getD_eq_getElem?_getD,h]
 ·simp [EC.encL,List.set_eq_of_length_le,Nat.not_lt.1 h]
theorem q13y (xs:List S47) (n:Nat) (a8:Int):(qan.encL xs).set n (splice ((qan.encL xs).getD n []) 8 [.int .i64 a8])=qan.encL (xs.set n ({ xs.getD n (qan.dec []) with End_Week:=a8 })):=by
 by_cases h:n<xs.length
 ·rw [EC.getD_lt _ _ h];simp [EC.encL,List.map_set,q11t,splice,List.getD_eq_getElem?_getD,h]
 ·simp [EC.encL,List.set_eq_of_length_le,Nat.not_lt.1 h]
theorem q13z (xs:List S47) (n:Nat) (a9:Int):(qan.encL xs).set n (splice ((qan.encL xs).getD n []) 9 [.int .i64 a9])=qan.encL (xs.set n ({ xs.getD n (qan.dec []) with End_Weekday:=a9 })):=by
 by_cases h:n<xs.length
 ·rw [EC.getD_lt _ _ h];simp [EC.encL,List.map_set,q11t,splice,List.getD_eq_getElem?_getD,h]
 ·simp [EC.encL,List.set_eq_of_length_le,Nat.not_lt.1 h]
theorem q13p (xs:List S47) (n:Nat) (a10:Int):(qan.encL xs).set n (splice ((qan.encL xs).getD n []) 10 [.int .i64 a10])=qan.encL (xs.set n ({ xs.getD n (qan.dec []) with End_Minute:=a10 })):=by
 by_cases h:n<xs.length
 ·rw [EC.getD_lt _ _ h];simp [EC.encL,List.map_set,q11t,splice,List.getD_eq_getElem?_getD,h]
 ·simp [EC.encL,List.set_eq_of_length_le,Nat.not_lt.1 h]
def qg3:=(qhl (vC (cSl qan)) (qhn (vFn 23 (qhn (vEptr (qhl cStr (qhl (cInt .i64) (qhl (cInt .i64) (qhl cStr (qhl cStr (qhl cStr (qhl (cSl q11o) (qhl cStr (qhl (cInt .i64) (qhl (cInt .i64) (qhl (cInt .i64) (qhl (cInt .i64) (qhl (cInt .i64) (qhl (cInt .i64) (qhl (cInt .i64) (qhl (cInt .i64) (qhl (cInt .i64) (qhl (cInt .i64) (qhl (cInt .i64) (qhl (cInt .i64) (qhl cBool (qhl (cSl qak) (qhl (cSl qak) (qhn (cSl qak))))))))))))))))))))))))) 0)))))
def qgc:=sLS [0,1,7,8] (qhl (vC (cSl qan)) (qhl (vFn 23 (qhn (vEptr (qhl cStr (qhl (cInt .i64) (qhl (cInt .i64) (qhl cStr (qhl cStr (qhl cStr (qhl (cSl q11o) (qhl cStr (qhl (cInt .i64) (qhl (cInt .i64) (qhl (cInt .i64) (qhl (cInt .i64) (qhl (cInt .i64) (qhl (cInt .i64) (qhl (cInt .i64) (qhl (cInt .i64) (qhl (cInt .i64) (qhl (cInt .i64) (qhl (cInt .i64) (qhl (cInt .i64) (qhl cBool (qhl (cSl qak) (qhl (cSl qak) (qhn (cSl qak))))))))))))))))))))))))) 0))) (qhl (vC (cInt .i64)) (qhn (vC (cInt .i64)))))) qhm [] [] (by decide) (fun _=>rfl)
def qgb:=sLS [0,1,7,8,9] (qhl (vC (cSl qan)) (qhl (vFn 23 (qhn (vEptr (qhl cStr (qhl (cInt .i64) (qhl (cInt .i64) (qhl cStr (qhl cStr (qhl cStr (qhl (cSl q11o) (qhl cStr (qhl (cInt .i64) (qhl (cInt .i64) (qhl (cInt .i64) (qhl (cInt .i64) (qhl (cInt .i64) (qhl (cInt .i64) (qhl (cInt .i64) (qhl (cInt .i64) (qhl (cInt .i64) (qhl (cInt .i64) (qhl (cInt .i64) (qhl (cInt .i64) (qhl cBool (qhl (cSl qak) (qhl (cSl qak) (qhn (cSl qak))))))))))))))))))))))))) 0))) (qhl (vC (cInt .i64)) (qhl (vC (cInt .i64)) (qhn (vC cBool)))))) qhm [] [] (by decide) (fun _=>rfl)
def qga:=sLS [4] (qhn (vC (cInt .i64))) qhm [] [] (by decide) (fun _=>rfl)
def qg9:=oOr 1 qga (oAt 2 qgb) (fun x=>(by decide:(2:Nat)≠1))
def qg6 (s:(List S47)) (f:ByteArray) (f_1:Int) (f_2:Int) (f_3:ByteArray) (f_4:ByteArray) (f_5:ByteArray) (f_6:(List S149)) (f_7:ByteArray) (f_8:Int) (f_9:Int) (f_10:Int) (f_11:Int) (f_12:Int) (f_13:Int) (f_14:Int) (f_15:Int) (f_16:Int) (f_17:Int) (f_18:Int) (f_19:Int) (f_20:Bool) (f_21:(List Int)) (f_22:(List Int)) (f_23:(List Int)) (t7:Int) (t8:Int):Option ((Int×Unit)⊕(((List S47)×(ByteArray×Int×Int×ByteArray×ByteArray×ByteArray×(List S149)×ByteArray×Int×Int×Int×Int×Int×Int×Int×Int×Int×Int×Int×Int×Bool×(List Int)×(List Int)×(List Int))×Int×Int×Bool)×Unit)):=lS Try.prog lv X1 22 19 (qfp (cdF Try.f22) 2) qgc qg9 ((s,(f,f_1,f_2,f_3,f_4,f_5,f_6,f_7,f_8,f_9,f_10,f_11,f_12,f_13,f_14,f_15,f_16,f_17,f_18,f_19,f_20,f_21,f_22,f_23),t7,t8),())
def qgd (s:(List S47)) (f:ByteArray) (f_1:Int) (f_2:Int) (f_3:ByteArray) (f_4:ByteArray) (f_5:ByteArray) (f_6:(List S149)) (f_7:ByteArray) (f_8:Int) (f_9:Int) (f_10:Int) (f_11:Int) (f_12:Int) (f_13:Int) (f_14:Int) (f_15:Int) (f_16:Int) (f_17:Int) (f_18:Int) (f_19:Int) (f_20:Bool) (f_21:(List Int)) (f_22:(List Int)) (f_23:(List Int)) (t7:Int) (t8:Int):Option ((Int×Unit)⊕(((List S47)×(ByteArray×Int×Int×ByteArray×ByteArray×ByteArray×(List S149)×ByteArray×Int×Int×Int×Int×Int×Int×Int×Int×Int×Int×Int×Int×Bool×(List Int)×(List Int)×(List Int))×Int×Int×Bool)×Unit)) :=
 (brE (decide (t8<t7))
 (gdE (decide (0≤t8))<|
 (gdE ((decide ((Int.toNat t8)<(List.length (EC.encL qan s))))&&(isE [K1.str,(K1.int Go.IntKind.i64),(K1.int Go.IntKind.i64),(K1.int Go.IntKind.i64),(K1.int Go.IntKind.i64),(K1.int Go.IntKind.i64),(K1.int Go.IntKind.i64),(K1.int Go.IntKind.i64),(K1.int Go.IntKind.i64),(K1.int Go.IntKind.i64),(K1.int Go.IntKind.i64)] 0 (List.getD (EC.encL qan s) (Int.toNat t8) [])))<|
 (gdE (EC.isL q11o (EC.encL q11o f_6))<|
 (gdE (EC.isL qak (EC.encL qak f_21))<|
 (gdE (EC.isL qak (EC.encL qak f_22))<|
 (gdE (EC.isL qak (EC.encL qak f_23))<|
 ((evz_s (qtz (List.getD (List.getD (EC.encL qan s) (Int.toNat t8) []) 0 C.ne)) (qgm (List.getD (List.getD (EC.encL qan s) (Int.toNat t8) []) 1 C.ne)) (qgm (List.getD (List.getD (EC.encL qan s) (Int.toNat t8) []) 2 C.ne)) (qgm (List.getD (List.getD (EC.encL qan s) (Int.toNat t8) []) 3 C.ne)) (qgm (List.getD (List.getD (EC.encL qan s) (Int.toNat t8) []) 4 C.ne)) (qgm (List.getD (List.getD (EC.encL qan s) (Int.toNat t8) []) 5 C.ne)) (qgm (List.getD (List.getD (EC.encL qan s) (Int.toNat t8) []) 6 C.ne)) (qgm (List.getD (List.getD (EC.encL qan s) (Int.toNat t8) []) 7 C.ne)) (qgm (List.getD (List.getD (EC.encL qan s) (Int.toNat t8) []) 8 C.ne)) (qgm (List.getD (List.getD (EC.encL qan s) (Int.toNat t8) []) 9 C.ne)) (qgm (List.getD (List.getD (EC.encL qan s) (Int.toNat t8) []) 10 C.ne)) f f_1 f_2 f_3 f_4 f_5 (EC.decL q11o (EC.encL q11o f_6)) f_7 f_8 f_9 f_10 f_11 f_12 f_13 f_14 f_15 f_16 f_17 f_18 f_19 f_20 (EC.decL qak (EC.encL qak f_21)) (EC.decL qak (EC.encL qak f_22)) (EC.decL qak (EC.encL qak f_23))).bind fun r0 =>
 (brE r0
 (some (.inl (t8,())))
 (gdE (EC.isL qan (EC.encL qan s))<|
 (gdE (EC.isL q11o (EC.encL q11o f_6))<|
 (gdE (EC.isL qak (EC.encL qak f_21))<|
 (gdE (EC.isL qak (EC.encL qak f_22))<|
 (gdE (EC.isL qak (EC.encL qak f_23))<|
 (qg6 (EC.decL qan (EC.encL qan s)) f f_1 f_2 f_3 f_4 f_5 (EC.decL q11o (EC.encL q11o f_6)) f_7 f_8 f_9 f_10 f_11 f_12 f_13 f_14 f_15 f_16 f_17 f_18 f_19 f_20 (EC.decL qak (EC.encL qak f_21)) (EC.decL qak (EC.encL qak f_22)) (EC.decL qak (EC.encL qak f_23)) t7 (IntKind.wrap .i64 (t8+1))))))))))))))))
 (gdE (EC.isL qan (EC.encL qan s))<|
 (gdE (EC.isL q11o (EC.encL q11o f_6))<|
 (gdE (EC.isL qak (EC.encL qak f_21))<|
 (gdE (EC.isL qak (EC.encL qak f_22))<|
 (gdE (EC.isL qak (EC.encL qak f_23))<|
 (some (.inr (((EC.decL qan (EC.encL qan s)),((f,(f_1,(f_2,(f_3,(f_4,(f_5,((EC.decL q11o (EC.encL q11o f_6)),(f_7,(f_8,(f_9,(f_10,(f_11,(f_12,(f_13,(f_14,(f_15,(f_16,(f_17,(f_18,(f_19,(f_20,((EC.decL qak (EC.encL qak f_21)),((EC.decL qak (EC.encL qak f_22)),(EC.decL qak (EC.encL qak f_23))))))))))))))))))))))))),(t7,(t8,false)))),())))))))))
theorem qg8 {s f f_1 f_2 f_3 f_4 f_5 f_6 f_7 f_8 f_9 f_10 f_11 f_12 f_13 f_14 f_15 f_16 f_17 f_18 f_19 f_20 f_21 f_22 f_23 t7 t8 r} (h:qgd s f f_1 f_2 f_3 f_4 f_5 f_6 f_7 f_8 f_9 f_10 f_11 f_12 f_13 f_14 f_15 f_16 f_17 f_18 f_19 f_20 f_21 f_22 f_23 t7 t8=some r):qg6 s f f_1 f_2 f_3 f_4 f_5 f_6 f_7 f_8 f_9 f_10 f_11 f_12 f_13 f_14 f_15 f_16 f_17 f_18 f_19 f_20 f_21 f_22 f_23 t7 t8=some r :=
 qhp (es:=qus) (hs:=[]) [] (by kernel_rfl) trivial trivial (by kernel_rfl) h
def qg7:=qj2 Try.prog lv X1 2 (qfp (cdF Try.f22) 2) qgc qg9 (fun x=>qg6 x.1.1 x.1.2.1.1 x.1.2.1.2.1 x.1.2.1.2.2.1 x.1.2.1.2.2.2.1 x.1.2.1.2.2.2.2.1 x.1.2.1.2.2.2.2.2.1 x.1.2.1.2.2.2.2.2.2.1 x.1.2.1.2.2.2.2.2.2.2.1 x.1.2.1.2.2.2.2.2.2.2.2.1 x.1.2.1.2.2.2.2.2.2.2.2.2.1 x.1.2.1.2.2.2.2.2.2.2.2.2.2.1 x.1.2.1.2.2.2.2.2.2.2.2.2.2.2.1 x.1.2.1.2.2.2.2.2.2.2.2.2.2.2.2.1 x.1.2.1.2.2.2.2.2.2.2.2.2.2.2.2.2.1 x.1.2.1.2.2.2.2.2.2.2.2.2.2.2.2.2.2.1 x.1.2.1.2.2.2.2.2.2.2.2.2.2.2.2.2.2.2.1 x.1.2.1.2.2.2.2.2.2.2.2.2.2.2.2.2.2.2.2.1 x.1.2.1.2.2.2.2.2.2.2.2.2.2.2.2.2.2.2.2.2.1 x.1.2.1.2.2.2.2.2.2.2.2.2.2.2.2.2.2.2.2.2.2.1 x.1.2.1.2.2.2.2.2.2.2.2.2.2.2.2.2.2.2.2.2.2.2.1 x.1.2.1.2.2.2.2.2.2.2.2.2.2.2.2.2.2.2.2.2.2.2.2.1 x.1.2.1.2.2.2.2.2.2.2.2.2.2.2.2.2.2.2.2.2.2.2.2.2.1 x.1.2.1.2.2.2.2.2.2.2.2.2.2.2.2.2.2.2.2.2.2.2.2.2.2.1 x.1.2.1.2.2.2.2.2.2.2.2.2.2.2.2.2.2.2.2.2.2.2.2.2.2.2 x.1.2.2.1 x.1.2.2.2) (fun _ _ h=>qho h)
def qg4:Cod (V×List B) Int:=(cFstU (cPair (vC (cInt .i64)) qhm))
def idxZ_s (s:(List S47)) (f_0:ByteArray) (f_1:Int) (f_2:Int) (f_3:ByteArray) (f_4:ByteArray) (f_5:ByteArray) (f_6:(List S149)) (f_7:ByteArray) (f_8:Int) (f_9:Int) (f_10:Int) (f_11:Int) (f_12:Int) (f_13:Int) (f_14:Int) (f_15:Int) (f_16:Int) (f_17:Int) (f_18:Int) (f_19:Int) (f_20:Bool) (f_21:(List Int)) (f_22:(List Int)) (f_23:(List Int)):Option Int:=fS Try.prog lv X1 22 qg3 qg4 (s,(f_0,f_1,f_2,f_3,f_4,f_5,f_6,f_7,f_8,f_9,f_10,f_11,f_12,f_13,f_14,f_15,f_16,f_17,f_18,f_19,f_20,f_21,f_22,f_23))
def idxZ_t (s:(List S47)) (f_0:ByteArray) (f_1:Int) (f_2:Int) (f_3:ByteArray) (f_4:ByteArray) (f_5:ByteArray) (f_6:(List S149)) (f_7:ByteArray) (f_8:Int) (f_9:Int) (f_10:Int) (f_11:Int) (f_12:Int) (f_13:Int) (f_14:Int) (f_15:Int) (f_16:Int) (f_17:Int) (f_18:Int) (f_19:Int) (f_20:Bool) (f_21:(List Int)) (f_22:(List Int)) (f_23:(List Int)):Option Int :=
 (gdE (EC.isL qan (EC.encL qan s))<|
 (gdE (EC.isL q11o (EC.encL q11o f_6))<|
 (gdE (EC.isL qak (EC.encL qak f_21))<|
 (gdE (EC.isL qak (EC.encL qak f_22))<|
 (gdE (EC.isL qak (EC.encL qak f_23))<|
 ((qg6 (EC.decL qan (EC.encL qan s)) f_0 f_1 f_2 f_3 f_4 f_5 (EC.decL q11o (EC.encL q11o f_6)) f_7 f_8 f_9 f_10 f_11 f_12 f_13 f_14 f_15 f_16 f_17 f_18 f_19 f_20 (EC.decL qak (EC.encL qak f_21)) (EC.decL qak (EC.encL qak f_22)) (EC.decL qak (EC.encL qak f_23)) (List.length (EC.encL qan s):Int) 0).bind fun r0 =>
 (Sum.elim (fun r1=>(some r1.1))
 (fun r1=>(some (-1:Int))) r0)))))))
theorem qg5 {s f_0 f_1 f_2 f_3 f_4 f_5 f_6 f_7 f_8 f_9 f_10 f_11 f_12 f_13 f_14 f_15 f_16 f_17 f_18 f_19 f_20 f_21 f_22 f_23 r} (h:idxZ_t s f_0 f_1 f_2 f_3 f_4 f_5 f_6 f_7 f_8 f_9 f_10 f_11 f_12 f_13 f_14 f_15 f_16 f_17 f_18 f_19 f_20 f_21 f_22 f_23=some r):idxZ_s s f_0 f_1 f_2 f_3 f_4 f_5 f_6 f_7 f_8 f_9 f_10 f_11 f_12 f_13 f_14 f_15 f_16 f_17 f_18 f_19 f_20 f_21 f_22 f_23=some r :=
 qbx (es:=qus) (hs:=[]) [qg7] Try.func22 rfl (by kernel_rfl) rfl (by kernel_rfl) (by kernel_rfl) ⟨⟨_,rfl,rfl⟩,trivial⟩ trivial (by kernel_rfl) h
def idxZ_e:=entS Try.prog lv X1 22 [23] qg3 qg4 (fun x=>idxZ_s x.1 x.2.1 x.2.2.1 x.2.2.2.1 x.2.2.2.2.1 x.2.2.2.2.2.1 x.2.2.2.2.2.2.1 x.2.2.2.2.2.2.2.1 x.2.2.2.2.2.2.2.2.1 x.2.2.2.2.2.2.2.2.2.1 x.2.2.2.2.2.2.2.2.2.2.1 x.2.2.2.2.2.2.2.2.2.2.2.1 x.2.2.2.2.2.2.2.2.2.2.2.2.1 x.2.2.2.2.2.2.2.2.2.2.2.2.2.1 x.2.2.2.2.2.2.2.2.2.2.2.2.2.2.1 x.2.2.2.2.2.2.2.2.2.2.2.2.2.2.2.1 x.2.2.2.2.2.2.2.2.2.2.2.2.2.2.2.2.1 x.2.2.2.2.2.2.2.2.2.2.2.2.2.2.2.2.2.1 x.2.2.2.2.2.2.2.2.2.2.2.2.2.2.2.2.2.2.1 x.2.2.2.2.2.2.2.2.2.2.2.2.2.2.2.2.2.2.2.1 x.2.2.2.2.2.2.2.2.2.2.2.2.2.2.2.2.2.2.2.2.1 x.2.2.2.2.2.2.2.2.2.2.2.2.2.2.2.2.2.2.2.2.2.1 x.2.2.2.2.2.2.2.2.2.2.2.2.2.2.2.2.2.2.2.2.2.2.1 x.2.2.2.2.2.2.2.2.2.2.2.2.2.2.2.2.2.2.2.2.2.2.2.1 x.2.2.2.2.2.2.2.2.2.2.2.2.2.2.2.2.2.2.2.2.2.2.2.2) (fun _ _ h=>qbw h)
def qv0:=idxZ_e::qus
def evt_ca:=(qhl (vAgg (qhl (vC cStr) (qhl (vC (cInt .i64)) (qhl (vC (cInt .i64)) (qhl (vC cStr) (qhl (vC cStr) (qhl (vC cStr) (qhl (vC (cSl q11o)) (qhl (vC cStr) (qhl (vC (cInt .i64)) (qhl (vC (cInt .i64)) (qhl (vC (cInt .i64)) (qhl (vC (cInt .i64)) (qhl (vC (cInt .i64)) (qhl (vC (cInt .i64)) (qhl (vC (cInt .i64)) (qhl (vC (cInt .i64)) (qhl (vC (cInt .i64)) (qhl (vC (cInt .i64)) (qhl (vC (cInt .i64)) (qhl (vC (cInt .i64)) (qhl (vC cBool) (qhl (vC (cSl qak)) (qhl (vC (cSl qak)) (qhn (vC (cSl qak))))))))))))))))))))))))))) (qhl (vC (cSl qan)) (qhl (vC (cInt .i64)) (qhn (vC (cInt .i64))))))
def qbq:=sLS [2,3,4,13,57,58,59] (qhl (vC (cInt .i64)) (qhl (vC (cInt .i64)) (qhl (vPtr 0 0) (qhl (vRow 1) (qhl (vC (cSl qak)) (qhl (vC (cInt .i64)) (qhn (vC (cInt .i64))))))))) (qhl (qkg (bBox (qhl (vC cStr) (qhl (vC (cInt .i64)) (qhl (vC (cInt .i64)) (qhl (vC cStr) (qhl (vC cStr) (qhl (vC cStr) (qhl (vC (cSl q11o)) (qhl (vC cStr) (qhl (vC (cInt .i64)) (qhl (vC (cInt .i64)) (qhl (vC (cInt .i64)) (qhl (vC (cInt .i64)) (qhl (vC (cInt .i64)) (qhl (vC (cInt .i64)) (qhl (vC (cInt .i64)) (qhl (vC (cInt .i64)) (qhl (vC (cInt .i64)) (qhl (vC (cInt .i64)) (qhl (vC (cInt .i64)) (qhl (vC (cInt .i64)) (qhl (vC cBool) (qhl (vC (cSl qak)) (qhl (vC (cSl qak)) (qhn (vC (cSl qak)))))))))))))))))))))))))))) (qhn (qkg (bRow q11q)))) [false,false] [] (by decide) (fun _=>rfl)
def qbp:=sLS [2,3,4,13,57,58,59,60] (qhl (vC (cInt .i64)) (qhl (vC (cInt .i64)) (qhl (vPtr 0 0) (qhl (vRow 1) (qhl (vC (cSl qak)) (qhl (vC (cInt .i64)) (qhl (vC (cInt .i64)) (qhn (vC cBool))))))))) (qhl (qkg (bBox (qhl (vC cStr) (qhl (vC (cInt .i64)) (qhl (vC (cInt .i64)) (qhl (vC cStr) (qhl (vC cStr) (qhl (vC cStr) (qhl (vC (cSl q11o)) (qhl (vC cStr) (qhl (vC (cInt .i64)) (qhl (vC (cInt .i64)) (qhl (vC (cInt .i64)) (qhl (vC (cInt .i64)) (qhl (vC (cInt .i64)) (qhl (vC (cInt .i64)) (qhl (vC (cInt .i64)) (qhl (vC (cInt .i64)) (qhl (vC (cInt .i64)) (qhl (vC (cInt .i64)) (qhl (vC (cInt .i64)) (qhl (vC (cInt .i64)) (qhl (vC cBool) (qhl (vC (cSl qak)) (qhl (vC (cSl qak)) (qhn (vC (cSl qak)))))))))))))))))))))))))))) (qhn (qkg (bRow q11q)))) [false,false] [] (by decide) (fun _=>rfl)
def qbo:=oAt 2 qbp
def qbl (from_:Int) (to_:Int) (out:Nat) (t57:(List Int)) (t58:Int) (t59:Int) (b0:ByteArray) (b0_1:Int) (b0_2:Int) (b0_3:ByteArray) (b0_4:ByteArray) (b0_5:ByteArray) (b0_6:(List S149)) (b0_7:ByteArray) (b0_8:Int) (b0_9:Int) (b0_10:Int) (b0_11:Int) (b0_12:Int) (b0_13:Int) (b0_14:Int) (b0_15:Int) (b0_16:Int) (b0_17:Int) (b0_18:Int) (b0_19:Int) (b0_20:Bool) (b0_21:(List Int)) (b0_22:(List Int)) (b0_23:(List Int)) (b1:(List S40)):Option ((Int×Int×Unit×Nat×(List Int)×Int×Int×Bool)×((ByteArray×Int×Int×ByteArray×ByteArray×ByteArray×(List S149)×ByteArray×Int×Int×Int×Int×Int×Int×Int×Int×Int×Int×Int×Int×Bool×(List Int)×(List Int)×(List Int))×(List S40))):=lS Try.prog lv X1 11 79 (qfp (cdF Try.f11) 11) qbq qbo ((from_,to_,(),out,t57,t58,t59),((b0,b0_1,b0_2,b0_3,b0_4,b0_5,b0_6,b0_7,b0_8,b0_9,b0_10,b0_11,b0_12,b0_13,b0_14,b0_15,b0_16,b0_17,b0_18,b0_19,b0_20,b0_21,b0_22,b0_23),b1))
def qbr (from_:Int) (to_:Int) (out:Nat) (t57:(List Int)) (t58:Int) (t59:Int) (b0:ByteArray) (b0_1:Int) (b0_2:Int) (b0_3:ByteArray) (b0_4:ByteArray) (b0_5:ByteArray) (b0_6:(List S149)) (b0_7:ByteArray) (b0_8:Int) (b0_9:Int) (b0_10:Int) (b0_11:Int) (b0_12:Int) (b0_13:Int) (b0_14:Int) (b0_15:Int) (b0_16:Int) (b0_17:Int) (b0_18:Int) (b0_19:Int) (b0_20:Bool) (b0_21:(List Int)) (b0_22:(List Int)) (b0_23:(List Int)) (b1:(List S40)):Option ((Int×Int×Unit×Nat×(List Int)×Int×Int×Bool)×((ByteArray×Int×Int×ByteArray×ByteArray×ByteArray×(List S149)×ByteArray×Int×Int×Int×Int×Int×Int×Int×Int×Int×Int×Int×Int×Bool×(List Int)×(List Int)×(List Int))×(List S40))) :=
 (brE (decide (t59<t58))
 (gdE (decide (0≤t59))<|
 (gdE ((decide ((Int.toNat t59)<(List.length (EC.encL qak t57))))&&(isE [(K1.int Go.IntKind.i64)] 0 (List.getD (EC.encL qak t57) (Int.toNat t59) [])))<|
 (gdE ((((List.all [[(C.int Go.IntKind.i64 (ite (true=true) (ite ((qgm (List.getD (List.getD (EC.encL qak t57) (Int.toNat t59) []) 0 C.ne))<from_) from_ (qgm (List.getD (List.getD (EC.encL qak t57) (Int.toNat t59) []) 0 C.ne))) (ite (from_<(qgm (List.getD (List.getD (EC.encL qak t57) (Int.toNat t59) []) 0 C.ne))) from_ (qgm (List.getD (List.getD (EC.encL qak t57) (Int.toNat t59) []) 0 C.ne))))),(C.int Go.IntKind.i64 (ite (false=true) (ite ((IntKind.wrap .i64 ((qgm (List.getD (List.getD (EC.encL qak t57) (Int.toNat t59) []) 0 C.ne))+(IntKind.wrap .i64 (60*b0_15))))<to_) to_ (IntKind.wrap .i64 ((qgm (List.getD (List.getD (EC.encL qak t57) (Int.toNat t59) []) 0 C.ne))+(IntKind.wrap .i64 (60*b0_15))))) (ite (to_<(IntKind.wrap .i64 ((qgm (List.getD (List.getD (EC.encL qak t57) (Int.toNat t59) []) 0 C.ne))+(IntKind.wrap .i64 (60*b0_15))))) to_ (IntKind.wrap .i64 ((qgm (List.getD (List.getD (EC.encL qak t57) (Int.toNat t59) []) 0 C.ne))+(IntKind.wrap .i64 (60*b0_15)))))))]] (fun (el:(List C))=>((List.length el)==2)))&&(List.all (EC.encL q11q b1) (fun (el:(List C))=>((List.length el)==2))))&&(decide (((((out+(List.length [[(C.int Go.IntKind.i64 (ite (true=true) (ite ((qgm (List.getD (List.getD (EC.encL qak t57) (Int.toNat t59) []) 0 C.ne))<from_) from_ (qgm (List.getD (List.getD (EC.encL qak t57) (Int.toNat t59) []) 0 C.ne))) (ite (from_<(qgm (List.getD (List.getD (EC.encL qak t57) (Int.toNat t59) []) 0 C.ne))) from_ (qgm (List.getD (List.getD (EC.encL qak t57) (Int.toNat t59) []) 0 C.ne))))),(C.int Go.IntKind.i64 (ite (false=true) (ite ((IntKind.wrap .i64 ((qgm (List.getD (List.getD (EC.encL qak t57) (Int.toNat t59) []) 0 C.ne))+(IntKind.wrap .i64 (60*b0_15))))<to_) to_ (IntKind.wrap .i64 ((qgm (List.getD (List.getD (EC.encL qak t57) (Int.toNat t59) []) 0 C.ne))+(IntKind.wrap .i64 (60*b0_15))))) (ite (to_<(IntKind.wrap .i64 ((qgm (List.getD (List.getD (EC.encL qak t57) (Int.toNat t59) []) 0 C.ne))+(IntKind.wrap .i64 (60*b0_15))))) to_ (IntKind.wrap .i64 ((qgm (List.getD (List.getD (EC.encL qak t57) (Int.toNat t59) []) 0 C.ne))+(IntKind.wrap .i64 (60*b0_15)))))))]]))+((out+(List.length [[(C.int Go.IntKind.i64 (ite (true=true) (ite ((qgm (List.getD (List.getD (EC.encL qak t57) (Int.toNat t59) []) 0 C.ne))<from_) from_ (qgm (List.getD (List.getD (EC.encL qak t57) (Int.toNat t59) []) 0 C.ne))) (ite (from_<(qgm (List.getD (List.getD (EC.encL qak t57) (Int.toNat t59) []) 0 C.ne))) from_ (qgm (List.getD (List.getD (EC.encL qak t57) (Int.toNat t59) []) 0 C.ne))))),(C.int Go.IntKind.i64 (ite (false=true) (ite ((IntKind.wrap .i64 ((qgm (List.getD (List.getD (EC.encL qak t57) (Int.toNat t59) []) 0 C.ne))+(IntKind.wrap .i64 (60*b0_15))))<to_) to_ (IntKind.wrap .i64 ((qgm (List.getD (List.getD (EC.encL qak t57) (Int.toNat t59) []) 0 C.ne))+(IntKind.wrap .i64 (60*b0_15))))) (ite (to_<(IntKind.wrap .i64 ((qgm (List.getD (List.getD (EC.encL qak t57) (Int.toNat t59) []) 0 C.ne))+(IntKind.wrap .i64 (60*b0_15))))) to_ (IntKind.wrap .i64 ((qgm (List.getD (List.getD (EC.encL qak t57) (Int.toNat t59) []) 0 C.ne))+(IntKind.wrap .i64 (60*b0_15)))))))]])) / 4))+192)*16)≤281474976710656)))&&(decide ((out+(List.length [[(C.int Go.IntKind.i64 (ite (true=true) (ite ((qgm (List.getD (List.getD (EC.encL qak t57) (Int.toNat t59) []) 0 C.ne))<from_) from_ (qgm (List.getD (List.getD (EC.encL qak t57) (Int.toNat t59) []) 0 C.ne))) (ite (from_<(qgm (List.getD (List.getD (EC.encL qak t57) (Int.toNat t59) []) 0 C.ne))) from_ (qgm (List.getD (List.getD (EC.encL qak t57) (Int.toNat t59) []) 0 C.ne))))),(C.int Go.IntKind.i64 (ite (false=true) (ite ((IntKind.wrap .i64 ((qgm (List.getD (List.getD (EC.encL qak t57) (Int.toNat t59) []) 0 C.ne))+(IntKind.wrap .i64 (60*b0_15))))<to_) to_ (IntKind.wrap .i64 ((qgm (List.getD (List.getD (EC.encL qak t57) (Int.toNat t59) []) 0 C.ne))+(IntKind.wrap .i64 (60*b0_15))))) (ite (to_<(IntKind.wrap .i64 ((qgm (List.getD (List.getD (EC.encL qak t57) (Int.toNat t59) []) 0 C.ne))+(IntKind.wrap .i64 (60*b0_15))))) to_ (IntKind.wrap .i64 ((qgm (List.getD (List.getD (EC.encL qak t57) (Int.toNat t59) []) 0 C.ne))+(IntKind.wrap .i64 (60*b0_15)))))))]]))≤9223372036854775807)))<|
 (gdE (EC.isL qak (EC.encL qak t57))<|
 (gdE (EC.isL q11o (EC.encL q11o b0_6))<|
 (gdE (EC.isL qak (EC.encL qak b0_21))<|
 (gdE (EC.isL qak (EC.encL qak b0_22))<|
 (gdE (EC.isL qak (EC.encL qak b0_23))<|
 (gdE (EC.isL q11q ((EC.encL q11q b1)++[[(C.int Go.IntKind.i64 (ite (true=true) (ite ((qgm (List.getD (List.getD (EC.encL qak t57) (Int.toNat t59) []) 0 C.ne))<from_) from_ (qgm (List.getD (List.getD (EC.encL qak t57) (Int.toNat t59) []) 0 C.ne))) (ite (from_<(qgm (List.getD (List.getD (EC.encL qak t57) (Int.toNat t59) []) 0 C.ne))) from_ (qgm (List.getD (List.getD (EC.encL qak t57) (Int.toNat t59) []) 0 C.ne))))),(C.int Go.IntKind.i64 (ite (false=true) (ite ((IntKind.wrap .i64 ((qgm (List.getD (List.getD (EC.encL qak t57) (Int.toNat t59) []) 0 C.ne))+(IntKind.wrap .i64 (60*b0_15))))<to_) to_ (IntKind.wrap .i64 ((qgm (List.getD (List.getD (EC.encL qak t57) (Int.toNat t59) []) 0 C.ne))+(IntKind.wrap .i64 (60*b0_15))))) (ite (to_<(IntKind.wrap .i64 ((qgm (List.getD (List.getD (EC.encL qak t57) (Int.toNat t59) []) 0 C.ne))+(IntKind.wrap .i64 (60*b0_15))))) to_ (IntKind.wrap .i64 ((qgm (List.getD (List.getD (EC.encL qak t57) (Int.toNat t59) []) 0 C.ne))+(IntKind.wrap .i64 (60*b0_15)))))))]]))<|
 (qbl from_ to_ (out+(List.length [[(C.int Go.IntKind.i64 (ite (true=true) (ite ((qgm (List.getD (List.getD (EC.encL qak t57) (Int.toNat t59) []) 0 C.ne))<from_) from_ (qgm (List.getD (List.getD (EC.encL qak t57) (Int.toNat t59) []) 0 C.ne))) (ite (from_<(qgm (List.getD (List.getD (EC.encL qak t57) (Int.toNat t59) []) 0 C.ne))) from_ (qgm (List.getD (List.getD (EC.encL qak t57) (Int.toNat t59) []) 0 C.ne))))),(C.int Go.IntKind.i64 (ite (false=true) (ite ((IntKind.wrap .i64 ((qgm (List.getD (List.getD (EC.encL qak t57) (Int.toNat t59) []) 0 C.ne))+(IntKind.wrap .i64 (60*b0_15))))<to_) to_ (IntKind.wrap .i64 ((qgm (List.getD (List.getD (EC.encL qak t57) (Int.toNat t59) []) 0 C.ne))+(IntKind.wrap .i64 (60*b0_15))))) (ite (to_<(IntKind.wrap .i64 ((qgm (List.getD (List.getD (EC.encL qak t57) (Int.toNat t59) []) 0 C.ne))+(IntKind.wrap .i64 (60*b0_15))))) to_ (IntKind.wrap .i64 ((qgm (List.getD (List.getD (EC.encL qak t57) (Int.toNat t59) []) 0 C.ne))+(IntKind.wrap .i64 (60*b0_15)))))))]])) (EC.decL qak (EC.encL qak t57)) t58 (IntKind.wrap .i64 (t59+1)) b0 b0_1 b0_2 b0_3 b0_4 b0_5 (EC.decL q11o (EC.encL q11o b0_6)) b0_7 b0_8 b0_9 b0_10 b0_11 b0_12 b0_13 b0_14 b0_15 b0_16 b0_17 b0_18 b0_19 b0_20 (EC.decL qak (EC.encL qak b0_21)) (EC.decL qak (EC.encL qak b0_22)) (EC.decL qak (EC.encL qak b0_23)) (EC.decL q11q ((EC.encL q11q b1)++[[(C.int Go.IntKind.i64 (ite (true=true) (ite ((qgm (List.getD (List.getD (EC.encL qak t57) (Int.toNat t59) []) 0 C.ne))<from_) from_ (qgm (List.getD (List.getD (EC.encL qak t57) (Int.toNat t59) []) 0 C.ne))) (ite (from_<(qgm (List.getD (List.getD (EC.encL qak t57) (Int.toNat t59) []) 0 C.ne))) from_ (qgm (List.getD (List.getD (EC.encL qak t57) (Int.toNat t59) []) 0 C.ne))))),(C.int Go.IntKind.i64 (ite (false=true) (ite ((IntKind.wrap .i64 ((qgm (List.getD (List.getD (EC.encL qak t57) (Int.toNat t59) []) 0 C.ne))+(IntKind.wrap .i64 (60*b0_15))))<to_) to_ (IntKind.wrap .i64 ((qgm (List.getD (List.getD (EC.encL qak t57) (Int.toNat t59) []) 0 C.ne))+(IntKind.wrap .i64 (60*b0_15))))) (ite (to_<(IntKind.wrap .i64 ((qgm (List.getD (List.getD (EC.encL qak t57) (Int.toNat t59) []) 0 C.ne))+(IntKind.wrap .i64 (60*b0_15))))) to_ (IntKind.wrap .i64 ((qgm (List.getD (List.getD (EC.encL qak t57) (Int.toNat t59) []) 0 C.ne))+(IntKind.wrap .i64 (60*b0_15)))))))]]))))))))))))
 (gdE (EC.isL qak (EC.encL qak t57))<|
 (gdE (EC.isL q11o (EC.encL q11o b0_6))<|
 (gdE (EC.isL qak (EC.encL qak b0_21))<|
 (gdE (EC.isL qak (EC.encL qak b0_22))<|
 (gdE (EC.isL qak (EC.encL qak b0_23))<|
 (gdE (EC.isL q11q (EC.encL q11q b1))<|
 (some ((from_,(to_,((),(out,((EC.decL qak (EC.encL qak t57)),(t58,(t59,false))))))),((b0,(b0_1,(b0_2,(b0_3,(b0_4,(b0_5,((EC.decL q11o (EC.encL q11o b0_6)),(b0_7,(b0_8,(b0_9,(b0_10,(b0_11,(b0_12,(b0_13,(b0_14,(b0_15,(b0_16,(b0_17,(b0_18,(b0_19,(b0_20,((EC.decL qak (EC.encL qak b0_21)),((EC.decL qak (EC.encL qak b0_22)),(EC.decL qak (EC.encL qak b0_23))))))))))))))))))))))))),(EC.decL q11q (EC.encL q11q b1))))))))))))
theorem qbn {from_ to_ out t57 t58 t59 b0 b0_1 b0_2 b0_3 b0_4 b0_5 b0_6 b0_7 b0_8 b0_9 b0_10 b0_11 b0_12 b0_13 b0_14 b0_15 b0_16 b0_17 b0_18 b0_19 b0_20 b0_21 b0_22 b0_23 b1 r} (h:qbr from_ to_ out t57 t58 t59 b0 b0_1 b0_2 b0_3 b0_4 b0_5 b0_6 b0_7 b0_8 b0_9 b0_10 b0_11 b0_12 b0_13 b0_14 b0_15 b0_16 b0_17 b0_18 b0_19 b0_20 b0_21 b0_22 b0_23 b1=some r):qbl from_ to_ out t57 t58 t59 b0 b0_1 b0_2 b0_3 b0_4 b0_5 b0_6 b0_7 b0_8 b0_9 b0_10 b0_11 b0_12 b0_13 b0_14 b0_15 b0_16 b0_17 b0_18 b0_19 b0_20 b0_21 b0_22 b0_23 b1=some r :=
 qhp (es:=qv0) (hs:=[]) [] (by kernel_rfl) trivial trivial (by kernel_rfl) h
def qbm:=qj2 Try.prog lv X1 11 (qfp (cdF Try.f11) 11) qbq qbo (fun x=>qbl x.1.1 x.1.2.1 x.1.2.2.2.1 x.1.2.2.2.2.1 x.1.2.2.2.2.2.1 x.1.2.2.2.2.2.2 x.2.1.1 x.2.1.2.1 x.2.1.2.2.1 x.2.1.2.2.2.1 x.2.1.2.2.2.2.1 x.2.1.2.2.2.2.2.1 x.2.1.2.2.2.2.2.2.1 x.2.1.2.2.2.2.2.2.2.1 x.2.1.2.2.2.2.2.2.2.2.1 x.2.1.2.2.2.2.2.2.2.2.2.1 x.2.1.2.2.2.2.2.2.2.2.2.2.1 x.2.1.2.2.2.2.2.2.2.2.2.2.2.1 x.2.1.2.2.2.2.2.2.2.2.2.2.2.2.1 x.2.1.2.2.2.2.2.2.2.2.2.2.2.2.2.1 x.2.1.2.2.2.2.2.2.2.2.2.2.2.2.2.2.1 x.2.1.2.2.2.2.2.2.2.2.2.2.2.2.2.2.2.1 x.2.1.2.2.2.2.2.2.2.2.2.2.2.2.2.2.2.2.1 x.2.1.2.2.2.2.2.2.2.2.2.2.2.2.2.2.2.2.2.1 x.2.1.2.2.2.2.2.2.2.2.2.2.2.2.2.2.2.2.2.2.1 x.2.1.2.2.2.2.2.2.2.2.2.2.2.2.2.2.2.2.2.2.2.1 x.2.1.2.2.2.2.2.2.2.2.2.2.2.2.2.2.2.2.2.2.2.2.1 x.2.1.2.2.2.2.2.2.2.2.2.2.2.2.2.2.2.2.2.2.2.2.2.1 x.2.1.2.2.2.2.2.2.2.2.2.2.2.2.2.2.2.2.2.2.2.2.2.2.1 x.2.1.2.2.2.2.2.2.2.2.2.2.2.2.2.2.2.2.2.2.2.2.2.2.2 x.2.2) (fun _ _ h=>qho h)
def evt_cr:Cod (V×List B) ((Nat×Int)×(List S40)):=(cPair (vTup (qhl (vRow 0) (qhn (vC (cInt .i64))))) (qhn (bRow q11q)))
def evt_s (e_Uid:ByteArray) (e_Method:Int) (e_Sequence:Int) (e_Summary:ByteArray) (e_Place:ByteArray) (e_Organizer:ByteArray) (e_Guests:(List S149)) (e_Zone:ByteArray) (e_Start_Year:Int) (e_Start_Month:Int) (e_Start_Day:Int) (e_Start_Hour:Int) (e_Start_Minute:Int) (e_Start_Second:Int) (e_Start_Zone:Int) (e_Length:Int) (e_Repeat_Frequency:Int) (e_Repeat_Every:Int) (e_Repeat_Count:Int) (e_Repeat_Until:Int) (e_Repeat_HasUntil:Bool) (e_Repeat_Weekdays:(List Int)) (e_Repeat_Except:(List Int)) (e_Repeat_Add:(List Int)) (l:(List S47)) (from_:Int) (to_:Int):Option ((Nat×Int)×(List S40)):=fS Try.prog lv X1 11 evt_ca evt_cr ((e_Uid,e_Method,e_Sequence,e_Summary,e_Place,e_Organizer,e_Guests,e_Zone,e_Start_Year,e_Start_Month,e_Start_Day,e_Start_Hour,e_Start_Minute,e_Start_Second,e_Start_Zone,e_Length,e_Repeat_Frequency,e_Repeat_Every,e_Repeat_Count,e_Repeat_Until,e_Repeat_HasUntil,e_Repeat_Weekdays,e_Repeat_Except,e_Repeat_Add),l,from_,to_)
def evt_t (e_Uid:ByteArray) (e_Method:Int) (e_Sequence:Int) (e_Summary:ByteArray) (e_Place:ByteArray) (e_Organizer:ByteArray) (e_Guests:(List S149)) (e_Zone:ByteArray) (e_Start_Year:Int) (e_Start_Month:Int) (e_Start_Day:Int) (e_Start_Hour:Int) (e_Start_Minute:Int) (e_Start_Second:Int) (e_Start_Zone:Int) (e_Length:Int) (e_Repeat_Frequency:Int) (e_Repeat_Every:Int) (e_Repeat_Count:Int) (e_Repeat_Until:Int) (e_Repeat_HasUntil:Bool) (e_Repeat_Weekdays:(List Int)) (e_Repeat_Except:(List Int)) (e_Repeat_Add:(List Int)) (l:(List S47)) (from_:Int) (to_:Int):Option ((Nat×Int)×(List S40)) :=
 (gdE (EC.isL qan (EC.encL qan l))<|
 (gdE (EC.isL q11o (EC.encL q11o e_Guests))<|
 (gdE (EC.isL qak (EC.encL qak e_Repeat_Weekdays))<|
 (gdE (EC.isL qak (EC.encL qak e_Repeat_Except))<|
 (gdE (EC.isL qak (EC.encL qak e_Repeat_Add))<|
 ((idxZ_s (EC.decL qan (EC.encL qan l)) e_Uid e_Method e_Sequence e_Summary e_Place e_Organizer (EC.decL q11o (EC.encL q11o e_Guests)) e_Zone e_Start_Year e_Start_Month e_Start_Day e_Start_Hour e_Start_Minute e_Start_Second e_Start_Zone e_Length e_Repeat_Frequency e_Repeat_Every e_Repeat_Count e_Repeat_Until e_Repeat_HasUntil (EC.decL qak (EC.encL qak e_Repeat_Weekdays)) (EC.decL qak (EC.encL qak e_Repeat_Except)) (EC.decL qak (EC.encL qak e_Repeat_Add))).bind fun r0 =>
 (brE (decide (r0<0))
 (some ((0,6),(EC.decL q11q [])))
 (brE ((decide (e_Length<0))==false)
 (brE (decide (e_Length>1000000))
 (some ((0,3),(EC.decL q11q [])))
 (gdE (decide (0≤r0))<|
 (gdE ((decide ((Int.toNat r0)<(List.length (EC.encL qan l))))&&(isE [K1.str,(K1.int Go.IntKind.i64),(K1.int Go.IntKind.i64),(K1.int Go.IntKind.i64),(K1.int Go.IntKind.i64),(K1.int Go.IntKind.i64),(K1.int Go.IntKind.i64),(K1.int Go.IntKind.i64),(K1.int Go.IntKind.i64),(K1.int Go.IntKind.i64),(K1.int Go.IntKind.i64)] 0 (List.getD (EC.encL qan l) (Int.toNat r0) [])))<|
 (gdE (EC.isL qak (EC.encL qak e_Repeat_Weekdays))<|
 (gdE (EC.isL qak (EC.encL qak e_Repeat_Except))<|
 (gdE (EC.isL qak (EC.encL qak e_Repeat_Add))<|
 (Option.bind (betS ((qtz (List.getD (List.getD (EC.encL qan l) (Int.toNat r0) []) 0 C.ne)),((qgm (List.getD (List.getD (EC.encL qan l) (Int.toNat r0) []) 1 C.ne)),((qgm (List.getD (List.getD (EC.encL qan l) (Int.toNat r0) []) 2 C.ne)),((qgm (List.getD (List.getD (EC.encL qan l) (Int.toNat r0) []) 3 C.ne)),((qgm (List.getD (List.getD (EC.encL qan l) (Int.toNat r0) []) 4 C.ne)),((qgm (List.getD (List.getD (EC.encL qan l) (Int.toNat r0) []) 5 C.ne)),((qgm (List.getD (List.getD (EC.encL qan l) (Int.toNat r0) []) 6 C.ne)),((qgm (List.getD (List.getD (EC.encL qan l) (Int.toNat r0) []) 7 C.ne)),((qgm (List.getD (List.getD (EC.encL qan l) (Int.toNat r0) []) 8 C.ne)),((qgm (List.getD (List.getD (EC.encL qan l) (Int.toNat r0) []) 9 C.ne)),(qgm (List.getD (List.getD (EC.encL qan l) (Int.toNat r0) []) 10 C.ne)))))))))))) (e_Start_Year,(e_Start_Month,(e_Start_Day,(e_Start_Hour,(e_Start_Minute,(e_Start_Second,e_Start_Zone)))))) (e_Repeat_Frequency,(e_Repeat_Every,(e_Repeat_Count,(e_Repeat_Until,(e_Repeat_HasUntil,((EC.decL qak (EC.encL qak e_Repeat_Weekdays)),((EC.decL qak (EC.encL qak e_Repeat_Except)),(EC.decL qak (EC.encL qak e_Repeat_Add))))))))) (ite (true=true) (ite ((IntKind.wrap .i64 (from_ - (IntKind.wrap .i64 (60*e_Length))))<(-68719476736)) (-68719476736) (IntKind.wrap .i64 (from_ - (IntKind.wrap .i64 (60*e_Length))))) (ite ((-68719476736)<(IntKind.wrap .i64 (from_ - (IntKind.wrap .i64 (60*e_Length))))) (-68719476736) (IntKind.wrap .i64 (from_ - (IntKind.wrap .i64 (60*e_Length)))))) to_) fun r1 =>
 ((q3e r1.2.1 r1.2.2).bind fun r2 =>
 (brE (r2==false)
 (brE (e_Method==4)
 (some ((0,r1.2.1),(EC.decL q11q [])))
 (gdE (EC.isL qak (EC.encL qak r1.1))<|
 (gdE (EC.isL q11o (EC.encL q11o e_Guests))<|
 (gdE (EC.isL qak (EC.encL qak e_Repeat_Weekdays))<|
 (gdE (EC.isL qak (EC.encL qak e_Repeat_Except))<|
 (gdE (EC.isL qak (EC.encL qak e_Repeat_Add))<|
 ((qbl from_ to_ 0 (EC.decL qak (EC.encL qak r1.1)) (((List.length (EC.encL qak r1.1)):Nat):Int) 0 e_Uid e_Method e_Sequence e_Summary e_Place e_Organizer (EC.decL q11o (EC.encL q11o e_Guests)) e_Zone e_Start_Year e_Start_Month e_Start_Day e_Start_Hour e_Start_Minute e_Start_Second e_Start_Zone e_Length e_Repeat_Frequency e_Repeat_Every e_Repeat_Count e_Repeat_Until e_Repeat_HasUntil (EC.decL qak (EC.encL qak e_Repeat_Weekdays)) (EC.decL qak (EC.encL qak e_Repeat_Except)) (EC.decL qak (EC.encL qak e_Repeat_Add)) (EC.decL q11q [])).bind fun r3 =>
 (gdE (EC.isL q11q (EC.encL q11q r3.2.2))<|
 (some ((r3.1.2.2.2.1,0),(EC.decL q11q (EC.encL q11q r3.2.2))))))))))))
 (some ((0,r1.2.1),(EC.decL q11q []))))))))))))
 (some ((0,3),(EC.decL q11q [])))))))))))
theorem evt_eq {e_Uid e_Method e_Sequence e_Summary e_Place e_Organizer e_Guests e_Zone e_Start_Year e_Start_Month e_Start_Day e_Start_Hour e_Start_Minute e_Start_Second e_Start_Zone e_Length e_Repeat_Frequency e_Repeat_Every e_Repeat_Count e_Repeat_Until e_Repeat_HasUntil e_Repeat_Weekdays e_Repeat_Except e_Repeat_Add l from_ to_ r} (h:evt_t e_Uid e_Method e_Sequence e_Summary e_Place e_Organizer e_Guests e_Zone e_Start_Year e_Start_Month e_Start_Day e_Start_Hour e_Start_Minute e_Start_Second e_Start_Zone e_Length e_Repeat_Frequency e_Repeat_Every e_Repeat_Count e_Repeat_Until e_Repeat_HasUntil e_Repeat_Weekdays e_Repeat_Except e_Repeat_Add l from_ to_=some r):evt_s e_Uid e_Method e_Sequence e_Summary e_Place e_Organizer e_Guests e_Zone e_Start_Year e_Start_Month e_Start_Day e_Start_Hour e_Start_Minute e_Start_Second e_Start_Zone e_Length e_Repeat_Frequency e_Repeat_Every e_Repeat_Count e_Repeat_Until e_Repeat_HasUntil e_Repeat_Weekdays e_Repeat_Except e_Repeat_Add l from_ to_=some r :=
 qbx (es:=qv0) (hs:=[]) [qbm] Try.func11 rfl (by kernel_rfl) rfl (by kernel_rfl) (by kernel_rfl) ⟨⟨_,rfl,rfl⟩,trivial⟩ trivial (by kernel_rfl) h
def evt_e:=entS Try.prog lv X1 11 [] evt_ca evt_cr (fun x=>evt_s x.1.1 x.1.2.1 x.1.2.2.1 x.1.2.2.2.1 x.1.2.2.2.2.1 x.1.2.2.2.2.2.1 x.1.2.2.2.2.2.2.1 x.1.2.2.2.2.2.2.2.1 x.1.2.2.2.2.2.2.2.2.1 x.1.2.2.2.2.2.2.2.2.2.1 x.1.2.2.2.2.2.2.2.2.2.2.1 x.1.2.2.2.2.2.2.2.2.2.2.2.1 x.1.2.2.2.2.2.2.2.2.2.2.2.2.1 x.1.2.2.2.2.2.2.2.2.2.2.2.2.2.1 x.1.2.2.2.2.2.2.2.2.2.2.2.2.2.2.1 x.1.2.2.2.2.2.2.2.2.2.2.2.2.2.2.2.1 x.1.2.2.2.2.2.2.2.2.2.2.2.2.2.2.2.2.1 x.1.2.2.2.2.2.2.2.2.2.2.2.2.2.2.2.2.2.1 x.1.2.2.2.2.2.2.2.2.2.2.2.2.2.2.2.2.2.2.1 x.1.2.2.2.2.2.2.2.2.2.2.2.2.2.2.2.2.2.2.2.1 x.1.2.2.2.2.2.2.2.2.2.2.2.2.2.2.2.2.2.2.2.2.1 x.1.2.2.2.2.2.2.2.2.2.2.2.2.2.2.2.2.2.2.2.2.2.1 x.1.2.2.2.2.2.2.2.2.2.2.2.2.2.2.2.2.2.2.2.2.2.2.1 x.1.2.2.2.2.2.2.2.2.2.2.2.2.2.2.2.2.2.2.2.2.2.2.2 x.2.1 x.2.2.1 x.2.2.2) (fun _ _ h=>qbw h)
def qur:=evt_e::qv0
structure S38 where
 Uid:ByteArray
 Method:Int
 Sequence:Int
 Summary:ByteArray
 Place:ByteArray
 Organizer:ByteArray
 Guests:(List S149)
 Zone:ByteArray
 Start_Year:Int
 Start_Month:Int
 Start_Day:Int
 Start_Hour:Int
 Start_Minute:Int
 Start_Second:Int
 Start_Zone:Int
 Length:Int
 Repeat_Frequency:Int
 Repeat_Every:Int
 Repeat_Count:Int
 Repeat_Until:Int
 Repeat_HasUntil:Bool
 Repeat_Weekdays:(List Int)
 Repeat_Except:(List Int)
 Repeat_Add:(List Int)
def q11p:EC S38 where
 enc x:=[.str x.Uid,.int .i64 x.Method,.int .i64 x.Sequence,.str x.Summary,.str x.Place,.str x.Organizer,.sl (q11o.encL x.Guests),.str x.Zone,.int .i64 x.Start_Year,.int .i64 x.Start_Month,.int .i64 x.Start_Day,.int .i64 x.Start_Hour,.int .i64 x.Start_Minute,.int .i64 x.Start_Second,.int .i64 x.Start_Zone,.int .i64 x.Length,.int .i64 x.Repeat_Frequency,.int .i64 x.Repeat_Every,.int .i64 x.Repeat_Count,.int .i64 x.Repeat_Until,.bool x.Repeat_HasUntil,.sl (qak.encL x.Repeat_Weekdays),.sl (qak.encL x.Repeat_Except),.sl (qak.encL x.Repeat_Add)]
 dec c:=⟨qtz (c.getD 0 .ne),qgm (c.getD 1 .ne),qgm (c.getD 2 .ne),qtz (c.getD 3 .ne),qtz (c.getD 4 .ne),qtz (c.getD 5 .ne),q11o.decL (slOf (c.getD 6 .ne)),qtz (c.getD 7 .ne),qgm (c.getD 8 .ne),qgm (c.getD 9 .ne),qgm (c.getD 10 .ne),qgm (c.getD 11 .ne),qgm (c.getD 12 .ne),qgm (c.getD 13 .ne),qgm (c.getD 14 .ne),qgm (c.getD 15 .ne),qgm (c.getD 16 .ne),qgm (c.getD 17 .ne),qgm (c.getD 18 .ne),qgm (c.getD 19 .ne),q5l (c.getD 20 .ne),qak.decL (slOf (c.getD 21 .ne)),qak.decL (slOf (c.getD 22 .ne)),qak.decL (slOf (c.getD 23 .ne))⟩
 is c:=isE [.str,.int .i64,.int .i64,.str,.str,.str,.sl,.str,.int .i64,.int .i64,.int .i64,.int .i64,.int .i64,.int .i64,.int .i64,.int .i64,.int .i64,.int .i64,.int .i64,.int .i64,.bool,.sl,.sl,.sl] 0 c&&q11o.isL (slOf (c.getD 6 .ne))&&qak.isL (slOf (c.getD 21 .ne))&&qak.isL (slOf (c.getD 22 .ne))&&qak.isL (slOf (c.getD 23 .ne))
 enc_dec h:=by
  simp only [Bool.and_eq_true] at h
  have h0:=q9c h.1.1.1.1
  simp only [decE,decC] at h0
  simp only [EC.encL_decL _ h.1.1.1.2,EC.encL_decL _ h.1.1.2,EC.encL_decL _ h.1.2,EC.encL_decL _ h.2]
  exact h0
 dec_enc x:=by simp [qtz,qgm,q5l,slOf]
 is_enc x:=by simp [isE,isK,slOf]
theorem q11s (x:S38):q11p.enc x=[.str x.Uid,.int .i64 x.Method,.int .i64 x.Sequence,.str x.Summary,.str x.Place,.str x.Organizer,.sl (q11o.encL x.Guests),.str x.Zone,.int .i64 x.Start_Year,.int .i64 x.Start_Month,.int .i64 x.Start_Day,.int .i64 x.Start_Hour,.int .i64 x.Start_Minute,.int .i64 x.Start_Second,.int .i64 x.Start_Zone,.int .i64 x.Length,.int .i64 x.Repeat_Frequency,.int .i64 x.Repeat_Every,.int .i64 x.Repeat_Count,.int .i64 x.Repeat_Until,.bool x.Repeat_HasUntil,.sl (qak.encL x.Repeat_Weekdays),.sl (qak.encL x.Repeat_Except),.sl (qak.encL x.Repeat_Add)]:=rfl
theorem q11x (xs:List S38) (n:Nat):isE [.str,.int .i64,.int .i64,.str,.str,.str,.sl,.str,.int .i64,.int .i64,.int .i64,.int .i64,.int .i64,.int .i64,.int .i64,.int .i64,.int .i64,.int .i64,.int .i64,.int .i64,.bool,.sl,.sl,.sl] 0 ((q11p.encL xs).getD n [])=decide (n<xs.length):=by
 by_cases h:n<xs.length
 ·simp only [EC.getD_lt _ _ h];simp [q11s,isE,isK,h]
 ·simp only [EC.getD_ge _ _ (Nat.not_lt.1 h)];simp [isE,isK,h]
theorem q10p (xs:List S38) (n:Nat):qtz (((q11p.encL xs).getD n []).getD 0 .ne)=(xs.getD n (q11p.dec [])).Uid:=by
 by_cases h:n<xs.length
 ·simp only [EC.getD_lt _ _ h];simp [q11s,h,qtz,qgm,q5l,slOf,List.getD_eq_getElem?_getD]
 ·simp only [EC.getD_ge _ _ (Nat.not_lt.1 h)];simp [Nat.not_lt.1 h,q11p,qtz,qgm,q5l,slOf,List.getD_eq_getElem?_getD,EC.decL,EC.encL]
theorem q10q (xs:List S38) (n:Nat):qgm (((q11p.encL xs).getD n []).getD 1 .ne)=(xs.getD n (q11p.dec [])).Method:=by
 by_cases h:n<xs.length
 ·simp only [EC.getD_lt _ _ h];simp [q11s,h,qtz,qgm,q5l,slOf,List.getD_eq_getElem?_getD]
 ·simp only [EC.getD_ge _ _ (Nat.not_lt.1 h)];simp [Nat.not_lt.1 h,q11p,qtz,qgm,q5l,slOf,List.getD_eq_getElem?_getD,EC.decL,EC.encL]
theorem q111 (xs:List S38) (n:Nat):qgm (((q11p.encL xs).getD n []).getD 2 .ne)=(xs.getD n (q11p.dec [])).Sequence:=by
 by_cases h:n<xs.length
 ·simp only [EC.getD_lt _ _ h];simp [q11s,h,qtz,qgm,q5l,slOf,List.getD_eq_getElem?_getD]
 ·simp only [EC.getD_ge _ _ (Nat.not_lt.1 h)];simp [Nat.not_lt.1 h,q11p,qtz,qgm,q5l,slOf,List.getD_eq_getElem?_getD,EC.decL,EC.encL]
theorem q116 (xs:List S38) (n:Nat):qtz (((q11p.encL xs).getD n []).getD 3 .ne)=(xs.getD n (q11p.dec [])).Summary:=by
 by_cases h:n<xs.length
 ·simp only [EC.getD_lt _ _ h];simp [q11s,h,qtz,qgm,q5l,slOf,List.getD_eq_getElem?_getD]
 ·simp only [EC.getD_ge _ _ (Nat.not_lt.1 h)];simp [Nat.not_lt.1 h,q11p,qtz,qgm,q5l,slOf,List.getD_eq_getElem?_getD,EC.decL,EC.encL]
theorem q117 (xs:List S38) (n:Nat):qtz (((q11p.encL xs).getD n []).getD 4 .ne)=(xs.getD n (q11p.dec [])).Place:=by
 by_cases h:n<xs.length
 ·simp only [EC.getD_lt _ _ h];simp [q11s,h,qtz,qgm,q5l,slOf,List.getD_eq_getElem?_getD]
 ·simp only [EC.getD_ge _ _ (Nat.not_lt.1 h)];simp [Nat.not_lt.1 h,q11p,qtz,qgm,q5l,slOf,List.getD_eq_getElem?_getD,EC.decL,EC.encL]
theorem q118 (xs:List S38) (n:Nat):qtz (((q11p.encL xs).getD n []).getD 5 .ne)=(xs.getD n (q11p.dec [])).Organizer:=by
 by_cases h:n<xs.length
 ·simp only [EC.getD_lt _ _ h];simp [q11s,h,qtz,qgm,q5l,slOf,List.getD_eq_getElem?_getD]
 ·simp only [EC.getD_ge _ _ (Nat.not_lt.1 h)];simp [Nat.not_lt.1 h,q11p,qtz,qgm,q5l,slOf,List.getD_eq_getElem?_getD,EC.decL,EC.encL]
theorem q119 (xs:List S38) (n:Nat):slOf (((q11p.encL xs).getD n []).getD 6 .ne)=q11o.encL (xs.getD n (q11p.dec [])).Guests:=by
 by_cases h:n<xs.length
 ·simp only [EC.getD_lt _ _ h];simp [q11s,h,qtz,qgm,q5l,slOf,List.getD_eq_getElem?_getD]
 ·simp only [EC.getD_ge _ _ (Nat.not_lt.1 h)];simp [Nat.not_lt.1 h,q11p,qtz,qgm,q5l,slOf,List.getD_eq_getElem?_getD,EC.decL,EC.encL]
theorem q11a (xs:List S38) (n:Nat):qtz (((q11p.encL xs).getD n []).getD 7 .ne)=(xs.getD n (q11p.dec [])).Zone:=by
 by_cases h:n<xs.length
 ·simp only [EC.getD_lt _ _ h];simp [q11s,h,qtz,qgm,q5l,slOf,List.getD_eq_getElem?_getD]
 ·simp only [EC.getD_ge _ _ (Nat.not_lt.1 h)];simp [Nat.not_lt.1 h,q11p,qtz,qgm,q5l,slOf,List.getD_eq_getElem?_getD,EC.decL,EC.encL]
theorem q11b (xs:List S38) (n:Nat):qgm (((q11p.encL xs).getD n []).getD 8 .ne)=(xs.getD n (q11p.dec [])).Start_Year:=by
 by_cases h:n<xs.length
 ·simp only [EC.getD_lt _ _ h];simp [q11s,h,qtz,qgm,q5l,slOf,List.getD_eq_getElem?_getD]
 ·simp only [EC.getD_ge _ _ (Nat.not_lt.1 h)];simp [Nat.not_lt.1 h,q11p,qtz,qgm,q5l,slOf,List.getD_eq_getElem?_getD,EC.decL,EC.encL]
theorem q11c (xs:List S38) (n:Nat):qgm (((q11p.encL xs).getD n []).getD 9 .ne)=(xs.getD n (q11p.dec [])).Start_Month:=by
 by_cases h:n<xs.length
 ·simp only [EC.getD_lt _ _ h];simp [q11s,h,qtz,qgm,q5l,slOf,List.getD_eq_getElem?_getD]
 ·simp only [EC.getD_ge _ _ (Nat.not_lt.1 h)];simp [Nat.not_lt.1 h,q11p,qtz,qgm,q5l,slOf,List.getD_eq_getElem?_getD,EC.decL,EC.encL]
theorem q10r (xs:List S38) (n:Nat):qgm (((q11p.encL xs).getD n []).getD 10 .ne)=(xs.getD n (q11p.dec [])).Start_Day:=by
 by_cases h:n<xs.length
 ·simp only [EC.getD_lt _ _ h];simp [q11s,h,qtz,qgm,q5l,slOf,List.getD_eq_getElem?_getD]
 ·simp only [EC.getD_ge _ _ (Nat.not_lt.1 h)];simp [Nat.not_lt.1 h,q11p,qtz,qgm,q5l,slOf,List.getD_eq_getElem?_getD,EC.decL,EC.encL]
theorem q10s (xs:List S38) (n:Nat):qgm (((q11p.encL xs).getD n []).getD 11 .ne)=(xs.getD n (q11p.dec [])).Start_Hour:=by
 by_cases h:n<xs.length
 ·simp only [EC.getD_lt _ _ h];simp [q11s,h,qtz,qgm,q5l,slOf,List.getD_eq_getElem?_getD]
 ·simp only [EC.getD_ge _ _ (Nat.not_lt.1 h)];simp [Nat.not_lt.1 h,q11p,qtz,qgm,q5l,slOf,List.getD_eq_getElem?_getD,EC.decL,EC.encL]
theorem q10t (xs:List S38) (n:Nat):qgm (((q11p.encL xs).getD n []).getD 12 .ne)=(xs.getD n (q11p.dec [])).Start_Minute:=by
 by_cases h:n<xs.length
 ·simp only [EC.getD_lt _ _ h];simp [q11s,h,qtz,qgm,q5l,slOf,List.getD_eq_getElem?_getD]
 ·simp only [EC.getD_ge _ _ (Nat.not_lt.1 h)];simp [Nat.not_lt.1 h,q11p,qtz,qgm,q5l,slOf,List.getD_eq_getElem?_getD,EC.decL,EC.encL]
theorem q10u (xs:List S38) (n:Nat):qgm (((q11p.encL xs).getD n []).getD 13 .ne)=(xs.getD n (q11p.dec [])).Start_Second:=by
 by_cases h:n<xs.length
 ·simp only [EC.getD_lt _ _ h];simp [q11s,h,qtz,qgm,q5l,slOf,List.getD_eq_getElem?_getD]
 ·simp only [EC.getD_ge _ _ (Nat.not_lt.1 h)];simp [Nat.not_lt.1 h,q11p,qtz,qgm,q5l,slOf,List.getD_eq_getElem?_getD,EC.decL,EC.encL]
theorem q10v (xs:List S38) (n:Nat):qgm (((q11p.encL xs).getD n []).getD 14 .ne)=(xs.getD n (q11p.dec [])).Start_Zone:=by
 by_cases h:n<xs.length
 ·simp only [EC.getD_lt _ _ h];simp [q11s,h,qtz,qgm,q5l,slOf,List.getD_eq_getElem?_getD]
 ·simp only [EC.getD_ge _ _ (Nat.not_lt.1 h)];simp [Nat.not_lt.1 h,q11p,qtz,qgm,q5l,slOf,List.getD_eq_getElem?_getD,EC.decL,EC.encL]
theorem q10w (xs:List S38) (n:Nat):qgm (((q11p.encL xs).getD n []).getD 15 .ne)=(xs.getD n (q11p.dec [])).Length:=by
 by_cases h:n<xs.length
 ·simp only [EC.getD_lt _ _ h];simp [q11s,h,qtz,qgm,q5l,slOf,List.getD_eq_getElem?_getD]
 ·simp only [EC.getD_ge _ _ (Nat.not_lt.1 h)];simp [Nat.not_lt.1 h,q11p,qtz,qgm,q5l,slOf,List.getD_eq_getElem?_getD,EC.decL,EC.encL]
theorem q10x (xs:List S38) (n:Nat):qgm (((q11p.encL xs).getD n []).getD 16 .ne)=(xs.getD n (q11p.dec [])).Repeat_Frequency:=by
 by_cases h:n<xs.length
 ·simp only [EC.getD_lt _ _ h];simp [q11s,h,qtz,qgm,q5l,slOf,List.getD_eq_getElem?_getD]
 ·simp only [EC.getD_ge _ _ (Nat.not_lt.1 h)];simp [Nat.not_lt.1 h,q11p,qtz,qgm,q5l,slOf,List.getD_eq_getElem?_getD,EC.decL,EC.encL]
theorem q10y (xs:List S38) (n:Nat):qgm (((q11p.encL xs).getD n []).getD 17 .ne)=(xs.getD n (q11p.dec [])).Repeat_Every:=by
 by_cases h:n<xs.length
 ·simp only [EC.getD_lt _ _ h];simp [q11s,h,qtz,qgm,q5l,slOf,List.getD_eq_getElem?_getD]
 ·simp only [EC.getD_ge _ _ (Nat.not_lt.1 h)];simp [Nat.not_lt.1 h,q11p,qtz,qgm,q5l,slOf,List.getD_eq_getElem?_getD,EC.decL,EC.encL]
theorem q10z (xs:List S38) (n:Nat):qgm (((q11p.encL xs).getD n []).getD 18 .ne)=(xs.getD n (q11p.dec [])).Repeat_Count:=by
 by_cases h:n<xs.length
 ·simp only [EC.getD_lt _ _ h];simp [q11s,h,qtz,qgm,q5l,slOf,List.getD_eq_getElem?_getD]
 ·simp only [EC.getD_ge _ _ (Nat.not_lt.1 h)];simp [Nat.not_lt.1 h,q11p,qtz,qgm,q5l,slOf,List.getD_eq_getElem?_getD,EC.decL,EC.encL]
theorem q110 (xs:List S38) (n:Nat):qgm (((q11p.encL xs).getD n []).getD 19 .ne)=(xs.getD n (q11p.dec [])).Repeat_Until:=by
 by_cases h:n<xs.length
 ·simp only [EC.getD_lt _ _ h];simp [q11s,h,qtz,qgm,q5l,slOf,List.getD_eq_getElem?_getD]
 ·simp only [EC.getD_ge _ _ (Nat.not_lt.1 h)];simp [Nat.not_lt.1 h,q11p,qtz,qgm,q5l,slOf,List.getD_eq_getElem?_getD,EC.decL,EC.encL]
theorem q112 (xs:List S38) (n:Nat):q5l (((q11p.encL xs).getD n []).getD 20 .ne)=(xs.getD n (q11p.dec [])).Repeat_HasUntil:=by
 by_cases h:n<xs.length
 ·simp only [EC.getD_lt _ _ h];simp [q11s,h,qtz,qgm,q5l,slOf,List.getD_eq_getElem?_getD]
 ·simp only [EC.getD_ge _ _ (Nat.not_lt.1 h)];simp [Nat.not_lt.1 h,q11p,qtz,qgm,q5l,slOf,List.getD_eq_getElem?_getD,EC.decL,EC.encL]
theorem q113 (xs:List S38) (n:Nat):slOf (((q11p.encL xs).getD n []).getD 21 .ne)=qak.encL (xs.getD n (q11p.dec [])).Repeat_Weekdays:=by
 by_cases h:n<xs.length
 ·simp only [EC.getD_lt _ _ h];simp [q11s,h,qtz,qgm,q5l,slOf,List.getD_eq_getElem?_getD]
 ·simp only [EC.getD_ge _ _ (Nat.not_lt.1 h)];simp [Nat.not_lt.1 h,q11p,qtz,qgm,q5l,slOf,List.getD_eq_getElem?_getD,EC.decL,EC.encL]
theorem q114 (xs:List S38) (n:Nat):slOf (((q11p.encL xs).getD n []).getD 22 .ne)=qak.encL (xs.getD n (q11p.dec [])).Repeat_Except:=by
 by_cases h:n<xs.length
 ·simp only [EC.getD_lt _ _ h];simp [q11s,h,qtz,qgm,q5l,slOf,List.getD_eq_getElem?_getD]
 ·simp only [EC.getD_ge _ _ (Nat.not_lt.1 h)];simp [Nat.not_lt.1 h,q11p,qtz,qgm,q5l,slOf,List.getD_eq_getElem?_getD,EC.decL,EC.encL]
theorem q115 (xs:List S38) (n:Nat):slOf (((q11p.encL xs).getD n []).getD 23 .ne)=qak.encL (xs.getD n (q11p.dec [])).Repeat_Add:=by
 by_cases h:n<xs.length
 ·simp only [EC.getD_lt _ _ h];simp [q11s,h,qtz,qgm,q5l,slOf,List.getD_eq_getElem?_getD]
 ·simp only [EC.getD_ge _ _ (Nat.not_lt.1 h)];simp [Nat.not_lt.1 h,q11p,qtz,qgm,q5l,slOf,List.getD_eq_getElem?_getD,EC.decL,EC.encL]
theorem lit_38 (a0:ByteArray) (a1:Int) (a2:Int) (a3:ByteArray) (a4:ByteArray) (a5:ByteArray) (a6:(List S149)) (a7:ByteArray) (a8:Int) (a9:Int) (a10:Int) (a11:Int) (a12:Int) (a13:Int) (a14:Int) (a15:Int) (a16:Int) (a17:Int) (a18:Int) (a19:Int) (a20:Bool) (a21:(List Int)) (a22:(List Int)) (a23:(List Int)):([.str a0,.int .i64 a1,.int .i64 a2,.str a3,.str a4,.str a5,.sl (q11o.encL a6),.str a7,.int .i64 a8,.int .i64 a9,.int .i64 a10,.int .i64 a11,.int .i64 a12,.int .i64 a13,.int .i64 a14,.int .i64 a15,.int .i64 a16,.int .i64 a17,.int .i64 a18,.int .i64 a19,.bool a20,.sl (qak.encL a21),.sl (qak.encL a22),.sl (qak.encL a23)]:List C)=q11p.enc (⟨a0,a1,a2,a3,a4,a5,a6,a7,a8,a9,a10,a11,a12,a13,a14,a15,a16,a17,a18,a19,a20,a21,a22,a23⟩:S38):=rfl
theorem q10l (xs:List S38) (a0:ByteArray) (a1:Int) (a2:Int) (a3:ByteArray) (a4:ByteArray) (a5:ByteArray) (a6:(List S149)) (a7:ByteArray) (a8:Int) (a9:Int) (a10:Int) (a11:Int) (a12:Int) (a13:Int) (a14:Int) (a15:Int) (a16:Int) (a17:Int) (a18:Int) (a19:Int) (a20:Bool) (a21:(List Int)) (a22:(List Int)) (a23:(List Int)):q11p.encL xs++[[.str a0,.int .i64 a1,.int .i64 a2,.str a3,.str a4,.str a5,.sl (q11o.encL a6),.str a7,.int .i64 a8,.int .i64 a9,.int .i64 a10,.int .i64 a11,.int .i64 a12,.int .i64 a13,.int .i64 a14,.int .i64 a15,.int .i64 a16,.int .i64 a17,.int .i64 a18,.int .i64 a19,.bool a20,.sl (qak.encL a21),.sl (qak.encL a22),.sl (qak.encL a23)]]=q11p.encL (xs++[(⟨a0,a1,a2,a3,a4,a5,a6,a7,a8,a9,a10,a11,a12,a13,a14,a15,a16,a17,a18,a19,a20,a21,a22,a23⟩:S38)]):=by rw [lit_38];simp [EC.encL]
theorem len_38 (xs:List S38) (n:Nat) (h:n<xs.length):((q11p.encL xs).getD n []).length=24:=by rw [EC.getD_lt _ _ h];rfl
theorem q10i (xs:List S38):(q11p.encL xs).all (fun (el:List C)=>el.length==24)=true:=by induction xs with|nil=>rfl|cons x xs ih=>first|(simp [EC.encL,q11s];done)|simpa [EC.encL,q11s] using ih
theorem q12v (xs:List S38) (n:Nat) (a0:ByteArray) (a1:Int) (a2:Int) (a3:ByteArray) (a4:ByteArray) (a5:ByteArray) (a6:(List S149)) (a7:ByteArray) (a8:Int) (a9:Int) (a10:Int) (a11:Int) (a12:Int) (a13:Int) (a14:Int) (a15:Int) (a16:Int) (a17:Int) (a18:Int) (a19:Int) (a20:Bool) (a21:(List Int)) (a22:(List Int)) (a23:(List Int)):(q11p.encL xs).set n (splice ((q11p.encL xs).getD n []) 0 [.str a0,.int .i64 a1,.int .i64 a2,.str a3,.str a4,.str a5,.sl (q11o.encL a6),.str a7,.int .i64 a8,.int .i64 a9,.int .i64 a10,.int .i64 a11,.int .i64 a12,.int .i64 a13,.int .i64 a14,.int .i64 a15,.int .i64 a16,.int .i64 a17,.int .i64 a18,.int .i64 a19,.bool a20,.sl (qak.encL a21),.sl (qak.encL a22),.sl (qak.encL a23)])=q11p.encL (xs.set n ({ xs.getD n (q11p.dec []) with Uid:=a0,Method:=a1,Sequence:=a2,Summary:=a3,Place:=a4,Organizer:=a5,Guests:=a6,Zone:=a7,Start_Year:=a8,Start_Month:=a9,Start_Day:=a10,Start_Hour:=a11,Start_Minute:=a12,Start_Second:=a13,Start_Zone:=a14,Length:=a15,Repeat_Frequency:=a16,Repeat_Every:=a17,Repeat_Count:=a18,Repeat_Until:=a19,Repeat_HasUntil:=a20,Repeat_Weekdays:=a21,Repeat_Except:=a22,Repeat_Add:=a23 })):=by
 by_cases h:n<xs.length
 ·rw [EC.getD_lt _ _ h];simp [EC.encL,List.map_set,q11s,splice,List.getD_eq_getElem?_getD,h]
 ·simp [EC.encL,List.set_eq_of_length_le,Nat.not_lt.1 h]
theorem q12u (xs:List S38) (n:Nat) (a0:ByteArray):(q11p.encL xs).set n (splice ((q11p.encL xs).getD n []) 0 [.str a0])=q11p.encL (xs.set n ({ xs.getD n (q11p.dec []) with Uid:=a0 })):=by
 by_cases h:n<xs.length
 ·rw [EC.getD_lt _ _ h];simp [EC.encL,List.map_set,q11s,splice,List.getD_eq_getElem?_getD,h]
 ·simp [EC.encL,List.set_eq_of_length_le,Nat.not_lt.1 h]
theorem q137 (xs:List S38) (n:Nat) (a1:Int):(q11p.encL xs).set n (splice ((q11p.encL xs).getD n []) 1 [.int .i64 a1])=q11p.encL (xs.set n ({ xs.getD n (q11p.dec []) with Method:=a1 })):=by
 by_cases h:n<xs.length
 ·rw [EC.getD_lt _ _ h];simp [EC.encL,List.map_set,q11s,splice,List.getD_eq_getElem?_getD,h]
 ·simp [EC.encL,List.set_eq_of_length_le,Nat.not_lt.1 h]
theorem q13c (xs:List S38) (n:Nat) (a2:Int):(q11p.encL xs).set n (splice ((q11p.encL xs).getD n []) 2 [.int .i64 a2])=q11p.encL (xs.set n ({ xs.getD n (q11p.dec []) with Sequence:=a2 })):=by
 by_cases h:n<xs.length
 ·rw [EC.getD_lt _ _ h];simp [EC.encL,List.map_set,q11s,splice,List.getD_eq_getElem?_getD,h]
 ·simp [EC.encL,List.set_eq_of_length_le,Nat.not_lt.1 h]
theorem q13d (xs:List S38) (n:Nat) (a3:ByteArray):(q11p.encL xs).set n (splice ((q11p.encL xs).getD n []) 3 [.str a3])=q11p.encL (xs.set n ({ xs.getD n (q11p.dec []) with Summary:=a3 })):=by
 by_cases h:n<xs.length
 ·rw [EC.getD_lt _ _ h];simp [EC.encL,List.map_set,q11s,splice,List.getD_eq_getElem?_getD,h]
 ·simp [EC.encL,List.set_eq_of_length_le,Nat.not_lt.1 h]
theorem q13e (xs:List S38) (n:Nat) (a4:ByteArray):(q11p.encL xs).set n (splice ((q11p.encL xs).getD n []) 4 [.str a4])=q11p.encL (xs.set n ({ xs.getD n (q11p.dec []) with Place:=a4 })):=by
 by_cases h:n<xs.length
 ·rw [EC.getD_lt _ _ h];simp [EC.encL,List.map_set,q11s,splice,List.getD_eq_getElem?_getD,h]
 ·simp [EC.encL,List.set_eq_of_length_le,Nat.not_lt.1 h]
theorem q13f (xs:List S38) (n:Nat) (a5:ByteArray):(q11p.encL xs).set n (splice ((q11p.encL xs).getD n []) 5 [.str a5])=q11p.encL (xs.set n ({ xs.getD n (q11p.dec []) with Organizer:=a5 })):=by
 by_cases h:n<xs.length
 ·rw [EC.getD_lt _ _ h];simp [EC.encL,List.map_set,q11s,splice,List.getD_eq_getElem?_getD,h]
 ·simp [EC.encL,List.set_eq_of_length_le,Nat.not_lt.1 h]
theorem q13g (xs:List S38) (n:Nat) (a6:(List S149)):(q11p.encL xs).set n (splice ((q11p.encL xs).getD n []) 6 [.sl (q11o.encL a6)])=q11p.encL (xs.set n ({ xs.getD n (q11p.dec []) with Guests:=a6 })):=by
 by_cases h:n<xs.length
 ·rw [EC.getD_lt _ _ h];simp [EC.encL,List.map_set,q11s,splice,List.getD_eq_getElem?_getD,h]
 ·simp [EC.encL,List.set_eq_of_length_le,Nat.not_lt.1 h]
theorem q13h (xs:List S38) (n:Nat) (a7:ByteArray):(q11p.encL xs).set n (splice ((q11p.encL xs).getD n []) 7 [.str a7])=q11p.encL (xs.set n ({ xs.getD n (q11p.dec []) with Zone:=a7 })):=by
 by_cases h:n<xs.length
 ·rw [EC.getD_lt _ _ h];simp [EC.encL,List.map_set,q11s,splice,List.getD_eq_getElem?_getD,h]
 ·simp [EC.encL,List.set_eq_of_length_le,Nat.not_lt.1 h]
theorem q13j (xs:List S38) (n:Nat) (a8:Int) (a9:Int) (a10:Int) (a11:Int) (a12:Int) (a13:Int) (a14:Int):(q11p.encL xs).set n (splice ((q11p.encL xs).getD n []) 8 [.int .i64 a8,.int .i64 a9,.int .i64 a10,.int .i64 a11,.int .i64 a12,.int .i64 a13,.int .i64 a14])=q11p.encL (xs.set n ({ xs.getD n (q11p.dec []) with Start_Year:=a8,Start_Month:=a9,Start_Day:=a10,Start_Hour:=a11,Start_Minute:=a12,Start_Second:=a13,Start_Zone:=a14 })):=by
 by_cases h:n<xs.length
 ·rw [EC.getD_lt _ _ h];simp [EC.encL,List.map_set,q11s,splice,List.getD_eq_getElem?_getD,h]
 ·simp [EC.encL,List.set_eq_of_length_le,Nat.not_lt.1 h]
theorem q13i (xs:List S38) (n:Nat) (a8:Int):(q11p.encL xs).set n (splice ((q11p.encL xs).getD n []) 8 [.int .i64 a8])=q11p.encL (xs.set n ({ xs.getD n (q11p.dec []) with Start_Year:=a8 })):=by
 by_cases h:n<xs.length
 ·rw [EC.getD_lt _ _ h];simp [EC.encL,List.map_set,q11s,splice,List.getD_eq_getElem?_getD,h]
 ·simp [EC.encL,List.set_eq_of_length_le,Nat.not_lt.1 h]
theorem q13k (xs:List S38) (n:Nat) (a9:Int):(q11p.encL xs).set n (splice ((q11p.encL xs).getD n []) 9 [.int .i64 a9])=q11p.encL (xs.set n ({ xs.getD n (q11p.dec []) with Start_Month:=a9 })):=by
 by_cases h:n<xs.length
 ·rw [EC.getD_lt _ _ h];simp [EC.encL,List.map_set,q11s,splice,List.getD_eq_getElem?_getD,h]
 ·simp [EC.encL,List.set_eq_of_length_le,Nat.not_lt.1 h]
theorem q12w (xs:List S38) (n:Nat) (a10:Int):(q11p.encL xs).set n (splice ((q11p.encL xs).getD n []) 10 [.int .i64 a10])=q11p.encL (xs.set n ({ xs.getD n (q11p.dec []) with Start_Day:=a10 })):=by
 by_cases h:n<xs.length
 ·rw [EC.getD_lt _ _ h];simp [EC.encL,List.map_set,q11s,splice,List.getD_eq_getElem?_getD,h]
 ·simp [EC.encL,List.set_eq_of_length_le,Nat.not_lt.1 h]
theorem q12x (xs:List S38) (n:Nat) (a11:Int):(q11p.encL xs).set n (splice ((q11p.encL xs).getD n []) 11 [.int .i64 a11])=q11p.encL (xs.set n ({ xs.getD n (q11p.dec []) with Start_Hour:=a11 })):=by
 by_cases h:n<xs.length
 ·rw [EC.getD_lt _ _ h];simp [EC.encL,List.map_set,q11s,splice,List.getD_eq_getElem?_getD,h]
 ·simp [EC.encL,List.set_eq_of_length_le,Nat.not_lt.1 h]
theorem q12y (xs:List S38) (n:Nat) (a12:Int):(q11p.encL xs).set n (splice ((q11p.encL xs).getD n []) 12 [.int .i64 a12])=q11p.encL (xs.set n ({ xs.getD n (q11p.dec []) with Start_Minute:=a12 })):=by
 by_cases h:n<xs.length
 ·rw [EC.getD_lt _ _ h];simp [EC.encL,List.map_set,q11s,splice,List.getD_eq_getElem?_getD,h]
 ·simp [EC.encL,List.set_eq_of_length_le,Nat.not_lt.1 h]
theorem q12z (xs:List S38) (n:Nat) (a13:Int):(q11p.encL xs).set n (splice ((q11p.encL xs).getD n []) 13 [.int .i64 a13])=q11p.encL (xs.set n ({ xs.getD n (q11p.dec []) with Start_Second:=a13 })):=by
 by_cases h:n<xs.length
 ·rw [EC.getD_lt _ _ h];simp [EC.encL,List.map_set,q11s,splice,List.getD_eq_getElem?_getD,h]
 ·simp [EC.encL,List.set_eq_of_length_le,Nat.not_lt.1 h]
theorem q130 (xs:List S38) (n:Nat) (a14:Int):(q11p.encL xs).set n (splice ((q11p.encL xs).getD n []) 14 [.int .i64 a14])=q11p.encL (xs.set n ({ xs.getD n (q11p.dec []) with Start_Zone:=a14 })):=by
 by_cases h:n<xs.length
 ·rw [EC.getD_lt _ _ h];simp [EC.encL,List.map_set,q11s,splice,List.getD_eq_getElem?_getD,h]
 ·simp [EC.encL,List.set_eq_of_length_le,Nat.not_lt.1 h]
theorem q131 (xs:List S38) (n:Nat) (a15:Int):(q11p.encL xs).set n (splice ((q11p.encL xs).getD n []) 15 [.int .i64 a15])=q11p.encL (xs.set n ({ xs.getD n (q11p.dec []) with Length:=a15 })):=by
 by_cases h:n<xs.length
 ·rw [EC.getD_lt _ _ h];simp [EC.encL,List.map_set,q11s,splice,List.getD_eq_getElem?_getD,h]
 ·simp [EC.encL,List.set_eq_of_length_le,Nat.not_lt.1 h]
theorem q133 (xs:List S38) (n:Nat) (a16:Int) (a17:Int) (a18:Int) (a19:Int) (a20:Bool) (a21:(List Int)) (a22:(List Int)) (a23:(List Int)):(q11p.encL xs).set n (splice ((q11p.encL xs).getD n []) 16 [.int .i64 a16,.int .i64 a17,.int .i64 a18,.int .i64 a19,.bool a20,.sl (qak.encL a21),.sl (qak.encL a22),.sl (qak.encL a23)])=q11p.encL (xs.set n ({ xs.getD n (q11p.dec []) with Repeat_Frequency:=a16,Repeat_Every:=a17,Repeat_Count:=a18,Repeat_Until:=a19,Repeat_HasUntil:=a20,Repeat_Weekdays:=a21,Repeat_Except:=a22,Repeat_Add:=a23 })):=by
 by_cases h:n<xs.length
 ·rw [EC.getD_lt _ _ h];simp [EC.encL,List.map_set,q11s,splice,List.getD_eq_getElem?_getD,h]
 ·simp [EC.encL,List.set_eq_of_length_le,Nat.not_lt.1 h]
theorem q132 (xs:List S38) (n:Nat) (a16:Int):(q11p.encL xs).set n (splice ((q11p.encL xs).getD n []) 16 [.int .i64 a16])=q11p.encL (xs.set n ({ xs.getD n (q11p.dec []) with Repeat_Frequency:=a16 })):=by
 by_cases h:n<xs.length
 ·rw [EC.getD_lt _ _ h];simp [EC.encL,List.map_set,q11s,splice,List.getD_eq_getElem?_getD,h]
 ·simp [EC.encL,List.set_eq_of_length_le,Nat.not_lt.1 h]
theorem q134 (xs:List S38) (n:Nat) (a17:Int):(q11p.encL xs).set n (splice ((q11p.encL xs).getD n []) 17 [.int .i64 a17])=q11p.encL (xs.set n ({ xs.getD n (q11p.dec []) with Repeat_Every:=a17 })):=by
 by_cases h:n<xs.length
 ·rw [EC.getD_lt _ _ h];simp [EC.encL,List.map_set,q11s,splice,List.getD_eq_getElem?_getD,h]
 ·simp [EC.encL,List.set_eq_of_length_le,Nat.not_lt.1 h]
theorem q135 (xs:List S38) (n:Nat) (a18:Int):(q11p.encL xs).set n (splice ((q11p.encL xs).getD n []) 18 [.int .i64 a18])=q11p.encL (xs.set n ({ xs.getD n (q11p.dec []) with Repeat_Count:=a18 })):=by
 by_cases h:n<xs.length
 ·rw [EC.getD_lt _ _ h];simp [EC.encL,List.map_set,q11s,splice,List.getD_eq_getElem?_getD,h]
 ·simp [EC.encL,List.set_eq_of_length_le,Nat.not_lt.1 h]
theorem q136 (xs:List S38) (n:Nat) (a19:Int):(q11p.encL xs).set n (splice ((q11p.encL xs).getD n []) 19 [.int .i64 a19])=q11p.encL (xs.set n ({ xs.getD n (q11p.dec []) with Repeat_Until:=a19 })):=by
 by_cases h:n<xs.length
 ·rw [EC.getD_lt _ _ h];simp [EC.encL,List.map_set,q11s,splice,List.getD_eq_getElem?_getD,h]
 ·simp [EC.encL,List.set_eq_of_length_le,Nat.not_lt.1 h]
theorem q138 (xs:List S38) (n:Nat) (a20:Bool):(q11p.encL xs).set n (splice ((q11p.encL xs).getD n []) 20 [.bool a20])=q11p.encL (xs.set n ({ xs.getD n (q11p.dec []) with Repeat_HasUntil:=a20 })):=by
 by_cases h:n<xs.length
 ·rw [EC.getD_lt _ _ h];simp [EC.encL,List.map_set,q11s,splice,List.getD_eq_getElem?_getD,h]
 ·simp [EC.encL,List.set_eq_of_length_le,Nat.not_lt.1 h]
theorem q139 (xs:List S38) (n:Nat) (a21:(List Int)):(q11p.encL xs).set n (splice ((q11p.encL xs).getD n []) 21 [.sl (qak.encL a21)])=q11p.encL (xs.set n ({ xs.getD n (q11p.dec []) with Repeat_Weekdays:=a21 })):=by
 by_cases h:n<xs.length
 ·rw [EC.getD_lt _ _ h];simp [EC.encL,List.map_set,q11s,splice,List.getD_eq_getElem?_getD,h]
 ·simp [EC.encL,List.set_eq_of_length_le,Nat.not_lt.1 h]
theorem q13a (xs:List S38) (n:Nat) (a22:(List Int)):(q11p.encL xs).set n (splice ((q11p.encL xs).getD n []) 22 [.sl (qak.encL a22)])=q11p.encL (xs.set n ({ xs.getD n (q11p.dec []) with Repeat_Except:=a22 })):=by
 by_cases h:n<xs.length
 ·rw [EC.getD_lt _ _ h];simp [EC.encL,List.map_set,q11s,splice,List.getD_eq_getElem?_getD,h]
 ·simp [EC.encL,List.set_eq_of_length_le,Nat.not_lt.1 h]
theorem q13b (xs:List S38) (n:Nat) (a23:(List Int)):(q11p.encL xs).set n (splice ((q11p.encL xs).getD n []) 23 [.sl (qak.encL a23)])=q11p.encL (xs.set n ({ xs.getD n (q11p.dec []) with Repeat_Add:=a23 })):=by
 by_cases h:n<xs.length
 ·rw [EC.getD_lt _ _ h];simp [EC.encL,List.map_set,q11s,splice,List.getD_eq_getElem?_getD,h]
 ·simp [EC.encL,List.set_eq_of_length_le,Nat.not_lt.1 h]
def qc2:=(qhl (vC (cSl q11p)) (qhl (vC (cSl qan)) (qhl (vC (cInt .i64)) (qhn (vC (cInt .i64))))))
def qcj:=sLS [0,1,2,3,9,34,35,36] (qhl (vC (cSl q11p)) (qhl (vC (cSl qan)) (qhl (vC (cInt .i64)) (qhl (vC (cInt .i64)) (qhl (vPtr 0 0) (qhl (vC (cSl qan)) (qhl (vC (cInt .i64)) (qhn (vC (cInt .i64)))))))))) (qhn (qkg (bBox (qhl (vC (cInt .i64)) (qhn (vC (cInt .i64))))))) [false] [] (by decide) (fun _=>rfl)
def qci:=sLS [0,1,2,3,9,34,35,36,37] (qhl (vC (cSl q11p)) (qhl (vC (cSl qan)) (qhl (vC (cInt .i64)) (qhl (vC (cInt .i64)) (qhl (vPtr 0 0) (qhl (vC (cSl qan)) (qhl (vC (cInt .i64)) (qhl (vC (cInt .i64)) (qhn (vC cBool)))))))))) (qhn (qkg (bBox (qhl (vC (cInt .i64)) (qhn (vC (cInt .i64))))))) [false] [] (by decide) (fun _=>rfl)
def qch:=sLS [8,9] (qhl (vRow 0) (qhn (vPtr 1 0))) (qhl (qkg (bRow q11q)) (qhn (qkg (bBox (qhl (vC (cInt .i64)) (qhn (vC (cInt .i64)))))))) [false,false] [] (by decide) (fun _=>rfl)
def qcg:=oOr 1 qch (oAt 2 qci) (fun x=>(by decide:(2:Nat)≠1))
def qcd (events:(List S38)) (zone:(List S47)) (from_:Int) (to_:Int) (t34:(List S47)) (t35:Int) (t36:Int) (b0:Int) (b0_1:Int):Option (((Nat×Unit)×((List S40)×(Int×Int)))⊕(((List S38)×(List S47)×Int×Int×Unit×(List S47)×Int×Int×Bool)×(Int×Int))):=lS Try.prog lv X1 4 78 (qfp (cdF Try.f4) 7) qcj qcg ((events,zone,from_,to_,(),t34,t35,t36),(b0,b0_1))
def qck (events:(List S38)) (zone:(List S47)) (from_:Int) (to_:Int) (t34:(List S47)) (t35:Int) (t36:Int) (b0:Int) (b0_1:Int):Option (((Nat×Unit)×((List S40)×(Int×Int)))⊕(((List S38)×(List S47)×Int×Int×Unit×(List S47)×Int×Int×Bool)×(Int×Int))) :=
 (brE (decide (t36<t35))
 (gdE (decide (0≤t36))<|
 (gdE ((decide ((Int.toNat t36)<(List.length (EC.encL qan t34))))&&(isE [K1.str,(K1.int Go.IntKind.i64),(K1.int Go.IntKind.i64),(K1.int Go.IntKind.i64),(K1.int Go.IntKind.i64),(K1.int Go.IntKind.i64),(K1.int Go.IntKind.i64),(K1.int Go.IntKind.i64),(K1.int Go.IntKind.i64),(K1.int Go.IntKind.i64),(K1.int Go.IntKind.i64)] 0 (List.getD (EC.encL qan t34) (Int.toNat t36) [])))<|
 (Option.bind (pZval ((qtz (List.getD (List.getD (EC.encL qan t34) (Int.toNat t36) []) 0 C.ne)),((qgm (List.getD (List.getD (EC.encL qan t34) (Int.toNat t36) []) 1 C.ne)),((qgm (List.getD (List.getD (EC.encL qan t34) (Int.toNat t36) []) 2 C.ne)),((qgm (List.getD (List.getD (EC.encL qan t34) (Int.toNat t36) []) 3 C.ne)),((qgm (List.getD (List.getD (EC.encL qan t34) (Int.toNat t36) []) 4 C.ne)),((qgm (List.getD (List.getD (EC.encL qan t34) (Int.toNat t36) []) 5 C.ne)),((qgm (List.getD (List.getD (EC.encL qan t34) (Int.toNat t36) []) 6 C.ne)),((qgm (List.getD (List.getD (EC.encL qan t34) (Int.toNat t36) []) 7 C.ne)),((qgm (List.getD (List.getD (EC.encL qan t34) (Int.toNat t36) []) 8 C.ne)),((qgm (List.getD (List.getD (EC.encL qan t34) (Int.toNat t36) []) 9 C.ne)),(qgm (List.getD (List.getD (EC.encL qan t34) (Int.toNat t36) []) 10 C.ne))))))))))))) fun r0 =>
 ((q3e r0.1 r0.2).bind fun r1 =>
 (brE r1
 ((q3k r0.1 (IntKind.wrap .i64 ((-10) - t36))).bind fun r2 =>
 (some (.inl ((0,()),((EC.decL q11q []),(r2.1,r2.2))))))
 (gdE (EC.isL q11p (EC.encL q11p events))<|
 (gdE (EC.isL qan (EC.encL qan zone))<|
 (gdE (EC.isL qan (EC.encL qan t34))<|
 (qcd (EC.decL q11p (EC.encL q11p events)) (EC.decL qan (EC.encL qan zone)) from_ to_ (EC.decL qan (EC.encL qan t34)) t35 (IntKind.wrap .i64 (t36+1)) b0 b0_1)))))))))
 (gdE (EC.isL q11p (EC.encL q11p events))<|
 (gdE (EC.isL qan (EC.encL qan zone))<|
 (gdE (EC.isL qan (EC.encL qan t34))<|
 (some (.inr (((EC.decL q11p (EC.encL q11p events)),((EC.decL qan (EC.encL qan zone)),(from_,(to_,((),((EC.decL qan (EC.encL qan t34)),(t35,(t36,false)))))))),(b0,b0_1))))))))
theorem qcf {events zone from_ to_ t34 t35 t36 b0 b0_1 r} (h:qck events zone from_ to_ t34 t35 t36 b0 b0_1=some r):qcd events zone from_ to_ t34 t35 t36 b0 b0_1=some r :=
 qhp (es:=qur) (hs:=[]) [] (by kernel_rfl) trivial trivial (by kernel_rfl) h
def qce:=qj2 Try.prog lv X1 7 (qfp (cdF Try.f4) 7) qcj qcg (fun x=>qcd x.1.1 x.1.2.1 x.1.2.2.1 x.1.2.2.2.1 x.1.2.2.2.2.2.1 x.1.2.2.2.2.2.2.1 x.1.2.2.2.2.2.2.2 x.2.1 x.2.2) (fun _ _ h=>qho h)
def qcb:=sLS [1,2,3,9,14,51,52,53] (qhl (vC (cSl qan)) (qhl (vC (cInt .i64)) (qhl (vC (cInt .i64)) (qhl (vPtr 0 0) (qhl (vRow 1) (qhl (vC (cSl q11p)) (qhl (vC (cInt .i64)) (qhn (vC (cInt .i64)))))))))) (qhl (qkg (bBox (qhl (vC (cInt .i64)) (qhn (vC (cInt .i64)))))) (qhn (qkg (bRow q11q)))) [false,false] [] (by decide) (fun _=>rfl)
def qca:=sLS [1,2,3,9,14,51,52,53,54] (qhl (vC (cSl qan)) (qhl (vC (cInt .i64)) (qhl (vC (cInt .i64)) (qhl (vPtr 0 0) (qhl (vRow 1) (qhl (vC (cSl q11p)) (qhl (vC (cInt .i64)) (qhl (vC (cInt .i64)) (qhn (vC cBool)))))))))) (qhl (qkg (bBox (qhl (vC (cInt .i64)) (qhn (vC (cInt .i64)))))) (qhn (qkg (bRow q11q)))) [false,false] [] (by decide) (fun _=>rfl)
def qc9:=sLS [8,9] (qhl (vRow 0) (qhn (vPtr 1 0))) (qhl (qkg (bRow q11q)) (qhn (qkg (bBox (qhl (vC (cInt .i64)) (qhn (vC (cInt .i64)))))))) [false,false] [] (by decide) (fun _=>rfl)
def qc8:=oOr 1 qc9 (oAt 4 qca) (fun x=>(by decide:(4:Nat)≠1))
def qc5 (zone:(List S47)) (from_:Int) (to_:Int) (out:Nat) (t51:(List S38)) (t52:Int) (t53:Int) (b0:Int) (b0_1:Int) (b1:(List S40)):Option (((Nat×Unit)×((List S40)×(Int×Int)))⊕(((List S47)×Int×Int×Unit×Nat×(List S38)×Int×Int×Bool)×((Int×Int)×(List S40)))):=lS Try.prog lv X1 4 78 (qfp (cdF Try.f4) 15) qcb qc8 ((zone,from_,to_,(),out,t51,t52,t53),((b0,b0_1),b1))
def qcc (zone:(List S47)) (from_:Int) (to_:Int) (out:Nat) (t51:(List S38)) (t52:Int) (t53:Int) (b0:Int) (b0_1:Int) (b1:(List S40)):Option (((Nat×Unit)×((List S40)×(Int×Int)))⊕(((List S47)×Int×Int×Unit×Nat×(List S38)×Int×Int×Bool)×((Int×Int)×(List S40)))) :=
 (brE (decide (t53<t52))
 (gdE (decide (0≤t53))<|
 (gdE ((decide ((Int.toNat t53)<(List.length (EC.encL q11p t51))))&&(isE [K1.str,(K1.int Go.IntKind.i64),(K1.int Go.IntKind.i64),K1.str,K1.str,K1.str,K1.sl,K1.str,(K1.int Go.IntKind.i64),(K1.int Go.IntKind.i64),(K1.int Go.IntKind.i64),(K1.int Go.IntKind.i64),(K1.int Go.IntKind.i64),(K1.int Go.IntKind.i64),(K1.int Go.IntKind.i64),(K1.int Go.IntKind.i64),(K1.int Go.IntKind.i64),(K1.int Go.IntKind.i64),(K1.int Go.IntKind.i64),(K1.int Go.IntKind.i64),K1.bool,K1.sl,K1.sl,K1.sl] 0 (List.getD (EC.encL q11p t51) (Int.toNat t53) [])))<|
 (gdE (EC.isL q11o (slOf (List.getD (List.getD (EC.encL q11p t51) (Int.toNat t53) []) 6 C.ne)))<|
 (gdE (EC.isL qak (slOf (List.getD (List.getD (EC.encL q11p t51) (Int.toNat t53) []) 21 C.ne)))<|
 (gdE (EC.isL qak (slOf (List.getD (List.getD (EC.encL q11p t51) (Int.toNat t53) []) 22 C.ne)))<|
 (gdE (EC.isL qak (slOf (List.getD (List.getD (EC.encL q11p t51) (Int.toNat t53) []) 23 C.ne)))<|
 (gdE (EC.isL qan (EC.encL qan zone))<|
 ((evt_s (qtz (List.getD (List.getD (EC.encL q11p t51) (Int.toNat t53) []) 0 C.ne)) (qgm (List.getD (List.getD (EC.encL q11p t51) (Int.toNat t53) []) 1 C.ne)) (qgm (List.getD (List.getD (EC.encL q11p t51) (Int.toNat t53) []) 2 C.ne)) (qtz (List.getD (List.getD (EC.encL q11p t51) (Int.toNat t53) []) 3 C.ne)) (qtz (List.getD (List.getD (EC.encL q11p t51) (Int.toNat t53) []) 4 C.ne)) (qtz (List.getD (List.getD (EC.encL q11p t51) (Int.toNat t53) []) 5 C.ne)) (EC.decL q11o (slOf (List.getD (List.getD (EC.encL q11p t51) (Int.toNat t53) []) 6 C.ne))) (qtz (List.getD (List.getD (EC.encL q11p t51) (Int.toNat t53) []) 7 C.ne)) (qgm (List.getD (List.getD (EC.encL q11p t51) (Int.toNat t53) []) 8 C.ne)) (qgm (List.getD (List.getD (EC.encL q11p t51) (Int.toNat t53) []) 9 C.ne)) (qgm (List.getD (List.getD (EC.encL q11p t51) (Int.toNat t53) []) 10 C.ne)) (qgm (List.getD (List.getD (EC.encL q11p t51) (Int.toNat t53) []) 11 C.ne)) (qgm (List.getD (List.getD (EC.encL q11p t51) (Int.toNat t53) []) 12 C.ne)) (qgm (List.getD (List.getD (EC.encL q11p t51) (Int.toNat t53) []) 13 C.ne)) (qgm (List.getD (List.getD (EC.encL q11p t51) (Int.toNat t53) []) 14 C.ne)) (qgm (List.getD (List.getD (EC.encL q11p t51) (Int.toNat t53) []) 15 C.ne)) (qgm (List.getD (List.getD (EC.encL q11p t51) (Int.toNat t53) []) 16 C.ne)) (qgm (List.getD (List.getD (EC.encL q11p t51) (Int.toNat t53) []) 17 C.ne)) (qgm (List.getD (List.getD (EC.encL q11p t51) (Int.toNat t53) []) 18 C.ne)) (qgm (List.getD (List.getD (EC.encL q11p t51) (Int.toNat t53) []) 19 C.ne)) (q5l (List.getD (List.getD (EC.encL q11p t51) (Int.toNat t53) []) 20 C.ne)) (EC.decL qak (slOf (List.getD (List.getD (EC.encL q11p t51) (Int.toNat t53) []) 21 C.ne))) (EC.decL qak (slOf (List.getD (List.getD (EC.encL q11p t51) (Int.toNat t53) []) 22 C.ne))) (EC.decL qak (slOf (List.getD (List.getD (EC.encL q11p t51) (Int.toNat t53) []) 23 C.ne))) (EC.decL qan (EC.encL qan zone)) from_ to_).bind fun r0 =>
 (brE (r0.1.2 != 0)
 ((q3k r0.1.2 t53).bind fun r1 =>
 (some (.inl ((0,()),((EC.decL q11q []),(r1.1,r1.2))))))
 (gdE ((((List.all (EC.encL q11q r0.2) (fun (el:(List C))=>((List.length el)==2)))&&(List.all (EC.encL q11q b1) (fun (el:(List C))=>((List.length el)==2))))&&(decide (((((out+(List.length (EC.encL q11q r0.2)))+((out+(List.length (EC.encL q11q r0.2))) / 4))+192)*16)≤281474976710656)))&&(decide ((out+(List.length (EC.encL q11q r0.2)))≤9223372036854775807)))<|
 (gdE (EC.isL qan (EC.encL qan zone))<|
 (gdE (EC.isL q11p (EC.encL q11p t51))<|
 (gdE (EC.isL q11q ((EC.encL q11q b1)++(EC.encL q11q r0.2)))<|
 (qc5 (EC.decL qan (EC.encL qan zone)) from_ to_ (out+(List.length (EC.encL q11q r0.2))) (EC.decL q11p (EC.encL q11p t51)) t52 (IntKind.wrap .i64 (t53+1)) b0 b0_1 (EC.decL q11q ((EC.encL q11q b1)++(EC.encL q11q r0.2)))))))))))))))))
 (gdE (EC.isL qan (EC.encL qan zone))<|
 (gdE (EC.isL q11p (EC.encL q11p t51))<|
 (gdE (EC.isL q11q (EC.encL q11q b1))<|
 (some (.inr (((EC.decL qan (EC.encL qan zone)),(from_,(to_,((),(out,((EC.decL q11p (EC.encL q11p t51)),(t52,(t53,false)))))))),((b0,b0_1),(EC.decL q11q (EC.encL q11q b1))))))))))
theorem qc7 {zone from_ to_ out t51 t52 t53 b0 b0_1 b1 r} (h:qcc zone from_ to_ out t51 t52 t53 b0 b0_1 b1=some r):qc5 zone from_ to_ out t51 t52 t53 b0 b0_1 b1=some r :=
 qhp (es:=qur) (hs:=[]) [] (by kernel_rfl) trivial trivial (by kernel_rfl) h
def qc6:=qj2 Try.prog lv X1 15 (qfp (cdF Try.f4) 15) qcb qc8 (fun x=>qc5 x.1.1 x.1.2.1 x.1.2.2.1 x.1.2.2.2.2.1 x.1.2.2.2.2.2.1 x.1.2.2.2.2.2.2.1 x.1.2.2.2.2.2.2.2 x.2.1.1 x.2.1.2 x.2.2) (fun _ _ h=>qho h)
def qc3:Cod (V×List B) ((Nat×(Int×Int))×(List S40)):=(cPair (vTup (qhl (vRow 0) (qhn (vAgg (qhl (vC (cInt .i64)) (qhn (vC (cInt .i64)))))))) (qhn (bRow q11q)))
def fbOf_s (events:(List S38)) (zone:(List S47)) (from_:Int) (to_:Int):Option ((Nat×(Int×Int))×(List S40)):=fS Try.prog lv X1 4 qc2 qc3 (events,zone,from_,to_)
def fbOf_t (events:(List S38)) (zone:(List S47)) (from_:Int) (to_:Int):Option ((Nat×(Int×Int))×(List S40)) :=
 (brE ((decide ((List.length (EC.encL q11p events):Int)>20))==false)
 (brE (decide ((List.length (EC.encL qan zone):Int)>60))
 ((q3k 2 (-1)).bind fun r0 =>
 (some ((0,(r0.1,r0.2)),(EC.decL q11q []))))
 ((qf7 from_ to_).bind fun r0 =>
 ((q3e r0.1 r0.2).bind fun r1 =>
 (brE r1
 (some ((0,(r0.1,r0.2)),(EC.decL q11q [])))
 (gdE (EC.isL q11p (EC.encL q11p events))<|
 (gdE (EC.isL qan (EC.encL qan zone))<|
 (gdE (EC.isL qan (EC.encL qan zone))<|
 ((qcd (EC.decL q11p (EC.encL q11p events)) (EC.decL qan (EC.encL qan zone)) from_ to_ (EC.decL qan (EC.encL qan zone)) (List.length (EC.encL qan zone):Int) 0 0 0).bind fun r2 =>
 (Sum.elim (fun r3=>(gdE (EC.isL q11q (EC.encL q11q r3.2.1))<|
 (some ((r3.1.1,(r3.2.2.1,r3.2.2.2)),(EC.decL q11q (EC.encL q11q r3.2.1))))))
 (fun r3=>(gdE (EC.isL qan (EC.encL qan r3.1.2.1))<|
 (gdE (EC.isL q11p (EC.encL q11p r3.1.1))<|
 ((qc5 (EC.decL qan (EC.encL qan r3.1.2.1)) r3.1.2.2.1 r3.1.2.2.2.1 0 (EC.decL q11p (EC.encL q11p r3.1.1)) (((List.length (EC.encL q11p r3.1.1)):Nat):Int) 0 r3.2.1 r3.2.2 (EC.decL q11q [])).bind fun r4 =>
 (Sum.elim (fun r5=>(gdE (EC.isL q11q (EC.encL q11q r5.2.1))<|
 (some ((r5.1.1,(r5.2.2.1,r5.2.2.2)),(EC.decL q11q (EC.encL q11q r5.2.1))))))
 (fun r5=>(gdE (EC.isL q11q (EC.encL q11q r5.2.2))<|
 ((unionS (EC.decL q11q (EC.encL q11q r5.2.2))).bind fun r6 =>
 (Option.bind q3s fun r7 =>
 (gdE (EC.isL q11q (EC.encL q11q r6.2))<|
 (some ((r6.1,(r7.1,r7.2)),(EC.decL q11q (EC.encL q11q r6.2))))))))) r4))))) r2)))))))))
 ((q3k 2 (-1)).bind fun r0 =>
 (some ((0,(r0.1,r0.2)),(EC.decL q11q [])))))
theorem qc4 {events zone from_ to_ r} (h:fbOf_t events zone from_ to_=some r):fbOf_s events zone from_ to_=some r :=
 qbx (es:=qur) (hs:=[]) [qce,qc6] Try.func4 rfl (by kernel_rfl) rfl (by kernel_rfl) (by kernel_rfl) ⟨⟨_,rfl,rfl⟩,⟨_,rfl,rfl⟩,trivial⟩ trivial (by kernel_rfl) h
def fbOf_e:=entS Try.prog lv X1 4 [] qc2 qc3 (fun x=>fbOf_s x.1 x.2.1 x.2.2.1 x.2.2.2) (fun _ _ h=>qbw h)
def qut:=fbOf_e::qur
def q121:=(qhl (vC (cSl q11p)) (qhl (vC (cSl qan)) (qhl (vC (cInt .i64)) (qhl (vC (cInt .i64)) (qhn (vC (cInt .i64)))))))
def q12i:=sLS [11,14,16,17,18] (qhl (vRow 0) (qhl (vRow 1) (qhl (vC (cInt .i64)) (qhl (vC cBool) (qhn (vC (cInt .i64))))))) (qhl (qkg (bRow q11q)) (qhn (qkg (bRow q11q)))) [false,false] [] (by decide) (fun _=>rfl)
def q12h:=sLS [11,14,16,17,18,66] (qhl (vRow 0) (qhl (vRow 1) (qhl (vC (cInt .i64)) (qhl (vC cBool) (qhl (vC (cInt .i64)) (qhn (vC cBool))))))) (qhl (qkg (bRow q11q)) (qhn (qkg (bRow q11q)))) [false,false] [] (by decide) (fun _=>rfl)
def q12g:=oAt 4 q12h
def q12d (all:Nat) (some_:Nat) (i:Int) (in_:Bool) (n:Int) (b0:(List S40)) (b1:(List S40)):Option ((Nat×Nat×Int×Bool×Int×Bool)×((List S40)×(List S40))):=lS Try.prog lv X1 3 99 (qfp (cdF Try.f3) 14) q12i q12g ((all,some_,i,in_,n),(b0,b1))
def q12j (all:Nat) (some_:Nat) (i:Int) (in_:Bool) (n:Int) (b0:(List S40)) (b1:(List S40)):Option ((Nat×Nat×Int×Bool×Int×Bool)×((List S40)×(List S40))) :=
 (brE (decide (n<((all:Nat):Int)))
 (brE (in_==false)
 (gdE ((decide (0≤n))&&(decide (n<((all:Nat):Int))))<|
 (gdE ((decide ((Int.toNat n)<(List.length (EC.encL q11q b0))))&&((List.length (List.getD (EC.encL q11q b0) (Int.toNat n) []))==2))<|
 (gdE (isP [(K1.int Go.IntKind.i64)] 0 (List.getD (EC.encL q11q b0) (Int.toNat n) []))<|
 (gdE ((decide (0≤i))&&(decide (i<((some_:Nat):Int))))<|
 (gdE ((decide ((Int.toNat i)<(List.length (EC.encL q11q b1))))&&((List.length (List.getD (EC.encL q11q b1) (Int.toNat i) []))==2))<|
 (gdE (isP [(K1.int Go.IntKind.i64)] 0 (List.getD (EC.encL q11q b1) (Int.toNat i) []))<|
 (brE ((decide ((qgm (List.getD (List.getD (EC.encL q11q b0) (Int.toNat n) []) 0 C.ne))≤(qgm (List.getD (List.getD (EC.encL q11q b1) (Int.toNat i) []) 0 C.ne))))==true)
 (gdE ((decide (0≤i))&&(decide (i<((some_:Nat):Int))))<|
 (gdE ((decide ((Int.toNat i)<(List.length (EC.encL q11q b1))))&&((List.length (List.getD (EC.encL q11q b1) (Int.toNat i) []))==2))<|
 (gdE (isP [(K1.int Go.IntKind.i64)] 1 (List.getD (EC.encL q11q b1) (Int.toNat i) []))<|
 (gdE ((decide (0≤n))&&(decide (n<((all:Nat):Int))))<|
 (gdE ((decide ((Int.toNat n)<(List.length (EC.encL q11q b0))))&&((List.length (List.getD (EC.encL q11q b0) (Int.toNat n) []))==2))<|
 (gdE (isP [(K1.int Go.IntKind.i64)] 1 (List.getD (EC.encL q11q b0) (Int.toNat n) []))<|
 (gdE (EC.isL q11q (EC.encL q11q b0))<|
 (gdE (EC.isL q11q (EC.encL q11q b1))<|
 (q12d all some_ i (decide ((qgm (List.getD (List.getD (EC.encL q11q b1) (Int.toNat i) []) 1 C.ne))≤(qgm (List.getD (List.getD (EC.encL q11q b0) (Int.toNat n) []) 1 C.ne)))) (IntKind.wrap .i64 (n+1)) (EC.decL q11q (EC.encL q11q b0)) (EC.decL q11q (EC.encL q11q b1)))))))))))
 (gdE (EC.isL q11q (EC.encL q11q b0))<|
 (gdE (EC.isL q11q (EC.encL q11q b1))<|
 (q12d all some_ i false (IntKind.wrap .i64 (n+1)) (EC.decL q11q (EC.encL q11q b0)) (EC.decL q11q (EC.encL q11q b1))))))))))))
 (gdE (EC.isL q11q (EC.encL q11q b0))<|
 (gdE (EC.isL q11q (EC.encL q11q b1))<|
 (q12d all some_ i true (IntKind.wrap .i64 (n+1)) (EC.decL q11q (EC.encL q11q b0)) (EC.decL q11q (EC.encL q11q b1))))))
 (gdE (EC.isL q11q (EC.encL q11q b0))<|
 (gdE (EC.isL q11q (EC.encL q11q b1))<|
 (some ((all,(some_,(i,(in_,(n,false))))),((EC.decL q11q (EC.encL q11q b0)),(EC.decL q11q (EC.encL q11q b1))))))))
theorem q12f {all some_ i in_ n b0 b1 r} (h:q12j all some_ i in_ n b0 b1=some r):q12d all some_ i in_ n b0 b1=some r :=
 qhp (es:=qut) (hs:=[]) [] (by kernel_rfl) trivial trivial (by kernel_rfl) h
def q12e:=qj2 Try.prog lv X1 14 (qfp (cdF Try.f3) 14) q12i q12g (fun x=>q12d x.1.1 x.1.2.1 x.1.2.2.1 x.1.2.2.2.1 x.1.2.2.2.2 x.2.1 x.2.2) (fun _ _ h=>qho h)
def q12b:=sLS [11,14,16] (qhl (vRow 0) (qhl (vRow 1) (qhn (vC (cInt .i64))))) (qhl (qkg (bRow q11q)) (qhn (qkg (bRow q11q)))) [false,false] [] (by decide) (fun _=>rfl)
def q12a:=sLS [11,14,16,60] (qhl (vRow 0) (qhl (vRow 1) (qhl (vC (cInt .i64)) (qhn (vC cBool))))) (qhl (qkg (bRow q11q)) (qhn (qkg (bRow q11q)))) [false,false] [] (by decide) (fun _=>rfl)
def q129:=sLS [10] (qhn (vC cBool)) qhm [] [] (by decide) (fun _=>rfl)
def q128:=oOr 1 q129 (oAt 2 q12a) (fun x=>(by decide:(2:Nat)≠1))
def q125 (all:Nat) (some_:Nat) (i:Int) (b0:(List S40)) (b1:(List S40)):Option ((Bool×Unit)⊕((Nat×Nat×Int×Bool)×((List S40)×(List S40)))):=lS Try.prog lv X1 3 99 (qfp (cdF Try.f3) 10) q12b q128 ((all,some_,i),(b0,b1))
def q12c (all:Nat) (some_:Nat) (i:Int) (b0:(List S40)) (b1:(List S40)):Option ((Bool×Unit)⊕((Nat×Nat×Int×Bool)×((List S40)×(List S40)))) :=
 (brE (decide (i<((some_:Nat):Int)))
 (gdE (EC.isL q11q (EC.encL q11q b0))<|
 (gdE (EC.isL q11q (EC.encL q11q b1))<|
 ((q12d all some_ i false 0 (EC.decL q11q (EC.encL q11q b0)) (EC.decL q11q (EC.encL q11q b1))).bind fun r0 =>
 (brE (!r0.1.2.2.2.1)
 (some (.inl (false,())))
 (gdE (EC.isL q11q (EC.encL q11q r0.2.1))<|
 (gdE (EC.isL q11q (EC.encL q11q r0.2.2))<|
 (q125 r0.1.1 r0.1.2.1 (IntKind.wrap .i64 (r0.1.2.2.1+1)) (EC.decL q11q (EC.encL q11q r0.2.1)) (EC.decL q11q (EC.encL q11q r0.2.2)))))))))
 (gdE (EC.isL q11q (EC.encL q11q b0))<|
 (gdE (EC.isL q11q (EC.encL q11q b1))<|
 (some (.inr ((all,(some_,(i,false))),((EC.decL q11q (EC.encL q11q b0)),(EC.decL q11q (EC.encL q11q b1)))))))))
theorem q127 {all some_ i b0 b1 r} (h:q12c all some_ i b0 b1=some r):q125 all some_ i b0 b1=some r :=
 qhp (es:=qut) (hs:=[]) [q12e] (by kernel_rfl) ⟨⟨_,rfl,rfl⟩,trivial⟩ trivial (by kernel_rfl) h
def q126:=qj2 Try.prog lv X1 10 (qfp (cdF Try.f3) 10) q12b q128 (fun x=>q125 x.1.1 x.1.2.1 x.1.2.2 x.2.1 x.2.2) (fun _ _ h=>qho h)
def q123:Cod (V×List B) Bool:=(cFstU (cPair (vC cBool) qhm))
def q12n (events:(List S38)) (zone:(List S47)) (from_:Int) (to_:Int) (k:Int):Option Bool:=fS Try.prog lv X1 3 q121 q123 (events,zone,from_,to_,k)
def q12p (events:(List S38)) (zone:(List S47)) (from_:Int) (to_:Int) (k:Int):Option Bool :=
 (gdE (EC.isL q11p (EC.encL q11p events))<|
 (gdE (EC.isL qan (EC.encL qan zone))<|
 ((fbOf_s (EC.decL q11p (EC.encL q11p events)) (EC.decL qan (EC.encL qan zone)) from_ to_).bind fun r0 =>
 (brE ((r0.1.2.1 != 0)==false)
 ((qlt k 0 (IntKind.wrap .i64 ((List.length (EC.encL q11p events):Int) - 1))).bind fun r1 =>
 (brE (!r1)
 (Option.bind qlh fun r2 =>
 (some r2))
 (gdE (((List.all (EC.encL q11p events) (fun (el:(List C))=>((List.length el)==24)))&&(decide (((((List.length (EC.encL q11p events))+((List.length (EC.encL q11p events)) / 4))+192)*296)≤281474976710656)))&&(decide ((List.length (EC.encL q11p events))≤9223372036854775807)))<|
 (gdE ((decide (0≤k))&&(decide (k<(List.length (EC.encL q11p events):Int))))<|
 (gdE ((decide ((Int.toNat k)<(List.length (EC.encL q11p events))))&&((List.length (List.getD (EC.encL q11p events) (Int.toNat k) []))==24))<|
 (gdE (EC.isL q11p (List.set (EC.encL q11p events) (Int.toNat k) (splice (List.getD (EC.encL q11p events) (Int.toNat k) []) 1 [(C.int Go.IntKind.i64 4)])))<|
 (gdE (EC.isL qan (EC.encL qan zone))<|
 ((fbOf_s (EC.decL q11p (List.set (EC.encL q11p events) (Int.toNat k) (splice (List.getD (EC.encL q11p events) (Int.toNat k) []) 1 [(C.int Go.IntKind.i64 4)]))) (EC.decL qan (EC.encL qan zone)) from_ to_).bind fun r2 =>
 (brE (r2.1.2.1 != 0)
 (some false)
 (gdE (EC.isL q11q (EC.encL q11q r0.2))<|
 (gdE (EC.isL q11q (EC.encL q11q r2.2))<|
 ((q125 r0.1.1 r2.1.1 0 (EC.decL q11q (EC.encL q11q r0.2)) (EC.decL q11q (EC.encL q11q r2.2))).bind fun r3 =>
 (Sum.elim (fun r4=>(some r4.1))
 (fun r4=>(Option.bind qlh fun r5 =>
 (some r5))) r3)))))))))))))
 (Option.bind qlh fun r1 =>
 (some r1))))))
theorem q124 {events zone from_ to_ k r} (h:q12p events zone from_ to_ k=some r):q12n events zone from_ to_ k=some r :=
 qbx (es:=qut) (hs:=[]) [q126] Try.func3 rfl (by kernel_rfl) rfl (by kernel_rfl) (by kernel_rfl) ⟨⟨_,rfl,rfl⟩,trivial⟩ trivial (by kernel_rfl) h
end
end Go.Proofs.Ytjlkjiifkganoaa
