/- Functions of the program as plain functions: made by program from the machine. -/
import Derived.Test.YtepmpilapglklaaGreatH2
namespace Go.Proofs.YtepmpilapglklaaGreat
open Go.RowKit
set_option maxRecDepth 100000
noncomputable section
def q101:=(qjn (vC (cInt .i64)))
def q102:Cod (V×List B) Bool:=(cFstU (cPair (vC cBool) qjm))
def q105 (n:Int):Option Bool:=fS Tryz.prog lv X0 14 q101 q102 n
def q106 (n:Int):Option Bool :=
 ((qzz n (-68719476736) 68719476736).bind fun r0 =>
 (some r0))
theorem q104 {n r} (h:q106 n=some r):q105 n=some r :=
 qc8 (es:=qu5) (hs:=[]) [] Tryz.func14 rfl (by kernel_rfl) rfl (by kernel_rfl) (by kernel_rfl) trivial trivial (by kernel_rfl) h
def q103:=entS Tryz.prog lv X0 14 [] q101 q102 (fun x=>q105 x) (fun _ _ h=>qc7 h)
def q168:=q103::qu5
def qzi:=(qjl (vC cStr) (qjn (vC cStr)))
def qzr:=sLS [0,1,5,6,7] (qjl (vC cStr) (qjl (vC cStr) (qjl (vRow 0) (qjl (vC (cInt .i64)) (qjn (vC (cInt .i64))))))) (qjn (qmx (bRow q9l))) [false] [] (by decide) (fun _=>rfl)
def qzq:=sLS [0,1,5,6,7,14] (qjl (vC cStr) (qjl (vC cStr) (qjl (vRow 0) (qjl (vC (cInt .i64)) (qjl (vC (cInt .i64)) (qjn (vC cBool))))))) (qjn (qmx (bRow q9l))) [false] [] (by decide) (fun _=>rfl)
def qzp:=oAt 2 qzq
def qzm (s:ByteArray) (by_:ByteArray) (out:Nat) (from_:Int) (i:Int) (b0:(List ByteArray)):Option ((ByteArray×ByteArray×Nat×Int×Int×Bool)×(List ByteArray)):=lS Tryz.prog lv X0 43 48 (qg9 (cdF Tryz.f43) 4) qzr qzp ((s,by_,out,from_,i),b0)
def qzs (s:ByteArray) (by_:ByteArray) (out:Nat) (from_:Int) (i:Int) (b0:(List ByteArray)):Option ((ByteArray×ByteArray×Nat×Int×Int×Bool)×(List ByteArray)) :=
 (brE (decide ((IntKind.wrap .i64 (i+(by_.size:Int)))≤(s.size:Int)))
 (brE ((decide (i≥from_))==true)
 (gdE ((decide (0≤(IntKind.wrap .i64 (i+(by_.size:Int)))))&&(decide ((IntKind.wrap .i64 (i+(by_.size:Int)))≤(s.size:Int))))<|
 (gdE ((decide (0≤i))&&(decide (i≤(((Int.toNat (IntKind.wrap .i64 (i+(by_.size:Int)))):Nat):Int))))<|
 (brE ((ByteArray.toList (ByteArray.extract s (Int.toNat i) (Int.toNat (IntKind.wrap .i64 (i+(by_.size:Int))))))==by_.toList)
 (gdE ((decide (0≤i))&&(decide (i≤(s.size:Int))))<|
 (gdE ((decide (0≤from_))&&(decide (from_≤(((Int.toNat i):Nat):Int))))<|
 (gdE ((((List.all [[(C.str (ByteArray.extract s (Int.toNat from_) (Int.toNat i)))]] (fun (el:(List C))=>((List.length el)==1)))&&(List.all (EC.encL q9l b0) (fun (el:(List C))=>((List.length el)==1))))&&(decide (((((out+(List.length [[(C.str (ByteArray.extract s (Int.toNat from_) (Int.toNat i)))]]))+((out+(List.length [[(C.str (ByteArray.extract s (Int.toNat from_) (Int.toNat i)))]])) / 4))+192)*16)≤281474976710656)))&&(decide ((out+(List.length [[(C.str (ByteArray.extract s (Int.toNat from_) (Int.toNat i)))]]))≤9223372036854775807)))<|
 (gdE (EC.isL q9l ((EC.encL q9l b0)++[[(C.str (ByteArray.extract s (Int.toNat from_) (Int.toNat i)))]]))<|
 (qzm s by_ (out+(List.length [[(C.str (ByteArray.extract s (Int.toNat from_) (Int.toNat i)))]])) (IntKind.wrap .i64 (i+(by_.size:Int))) (IntKind.wrap .i64 (i+1)) (EC.decL q9l ((EC.encL q9l b0)++[[(C.str (ByteArray.extract s (Int.toNat from_) (Int.toNat i)))]])))))))
 (gdE (EC.isL q9l (EC.encL q9l b0))<|
 (qzm s by_ out from_ (IntKind.wrap .i64 (i+1)) (EC.decL q9l (EC.encL q9l b0)))))))
 (gdE (EC.isL q9l (EC.encL q9l b0))<|
 (qzm s by_ out from_ (IntKind.wrap .i64 (i+1)) (EC.decL q9l (EC.encL q9l b0)))))
 (gdE (EC.isL q9l (EC.encL q9l b0))<|
 (some ((s,(by_,(out,(from_,(i,false))))),(EC.decL q9l (EC.encL q9l b0))))))
theorem qzo {s by_ out from_ i b0 r} (h:qzs s by_ out from_ i b0=some r):qzm s by_ out from_ i b0=some r :=
 qjp (es:=q168) (hs:=[]) [] (by kernel_rfl) trivial trivial (by kernel_rfl) h
def qzn:=qk9 Tryz.prog lv X0 4 (qg9 (cdF Tryz.f43) 4) qzr qzp (fun x=>qzm x.1.1 x.1.2.1 x.1.2.2.1 x.1.2.2.2.1 x.1.2.2.2.2 x.2) (fun _ _ h=>qjo h)
def qzj:Cod (V×List B) (Nat×(List ByteArray)):=(cPair (vRow 0) (qjn (bRow q9l)))
def qzt (s:ByteArray) (by_:ByteArray):Option (Nat×(List ByteArray)):=fS Tryz.prog lv X0 43 qzi qzj (s,by_)
def qzu (s:ByteArray) (by_:ByteArray):Option (Nat×(List ByteArray)) :=
 ((qzm s by_ 0 0 0 (EC.decL q9l [])).bind fun r0 =>
 (gdE ((decide (0≤r0.1.2.2.2.1))&&(decide (r0.1.2.2.2.1≤((r0.1.1.size:Nat):Int))))<|
 (gdE ((((List.all [[(C.str (ByteArray.extract r0.1.1 (Int.toNat r0.1.2.2.2.1) r0.1.1.size))]] (fun (el:(List C))=>((List.length el)==1)))&&(List.all (EC.encL q9l r0.2) (fun (el:(List C))=>((List.length el)==1))))&&(decide (((((r0.1.2.2.1+(List.length [[(C.str (ByteArray.extract r0.1.1 (Int.toNat r0.1.2.2.2.1) r0.1.1.size))]]))+((r0.1.2.2.1+(List.length [[(C.str (ByteArray.extract r0.1.1 (Int.toNat r0.1.2.2.2.1) r0.1.1.size))]])) / 4))+192)*16)≤281474976710656)))&&(decide ((r0.1.2.2.1+(List.length [[(C.str (ByteArray.extract r0.1.1 (Int.toNat r0.1.2.2.2.1) r0.1.1.size))]]))≤9223372036854775807)))<|
 (gdE (EC.isL q9l ((EC.encL q9l r0.2)++[[(C.str (ByteArray.extract r0.1.1 (Int.toNat r0.1.2.2.2.1) r0.1.1.size))]]))<|
 (some ((r0.1.2.2.1+(List.length [[(C.str (ByteArray.extract r0.1.1 (Int.toNat r0.1.2.2.2.1) r0.1.1.size))]])),(EC.decL q9l ((EC.encL q9l r0.2)++[[(C.str (ByteArray.extract r0.1.1 (Int.toNat r0.1.2.2.2.1) r0.1.1.size))]]))))))))
theorem qzl {s by_ r} (h:qzu s by_=some r):qzt s by_=some r :=
 qc8 (es:=q168) (hs:=[]) [qzn] Tryz.func43 rfl (by kernel_rfl) rfl (by kernel_rfl) (by kernel_rfl) ⟨⟨_,rfl,rfl⟩,trivial⟩ trivial (by kernel_rfl) h
def qzk:=entS Tryz.prog lv X0 43 [] qzi qzj (fun x=>qzt x.1 x.2) (fun _ _ h=>qc7 h)
def q166:=qzk::q168
def q10d:=(qjl (vC (cSl q9j)) (qjn (vC (cSl q9j))))
def q10n:=sLS [0,1,5] (qjl (vC (cSl q9j)) (qjl (vC (cSl q9j)) (qjn (vC (cInt .i64))))) qjm [] [] (by decide) (fun _=>rfl)
def q10m:=sLS [0,1,5,14] (qjl (vC (cSl q9j)) (qjl (vC (cSl q9j)) (qjl (vC (cInt .i64)) (qjn (vC cBool))))) qjm [] [] (by decide) (fun _=>rfl)
def q10l:=sLS [4] (qjn (vC cBool)) qjm [] [] (by decide) (fun _=>rfl)
def q10k:=oOr 1 q10l (oAt 2 q10m) (fun x=>(by decide:(2:Nat)≠1))
def q10h (a:(List S57)) (b:(List S57)) (i:Int):Option ((Bool×Unit)⊕(((List S57)×(List S57)×Int×Bool)×Unit)):=lS Tryz.prog lv X0 73 26 (qg9 (cdF Tryz.f73) 4) q10n q10k ((a,b,i),())
def q10o (a:(List S57)) (b:(List S57)) (i:Int):Option ((Bool×Unit)⊕(((List S57)×(List S57)×Int×Bool)×Unit)) :=
 (brE (decide (i<(List.length (EC.encL q9j a):Int)))
 (gdE (decide (0≤i))<|
 (gdE ((decide ((Int.toNat i)<(List.length (EC.encL q9j a))))&&(isE [K1.str,K1.str] 0 (List.getD (EC.encL q9j a) (Int.toNat i) [])))<|
 (gdE (decide (0≤i))<|
 (gdE ((decide ((Int.toNat i)<(List.length (EC.encL q9j b))))&&(isE [K1.str,K1.str] 0 (List.getD (EC.encL q9j b) (Int.toNat i) [])))<|
 (brE (!(((qrk (List.getD (List.getD (EC.encL q9j a) (Int.toNat i) []) 0 C.ne))==(qrk (List.getD (List.getD (EC.encL q9j b) (Int.toNat i) []) 0 C.ne)))&&(((qrk (List.getD (List.getD (EC.encL q9j a) (Int.toNat i) []) 1 C.ne))==(qrk (List.getD (List.getD (EC.encL q9j b) (Int.toNat i) []) 1 C.ne)))&&true)))
 (some (.inl (false,())))
 (gdE (EC.isL q9j (EC.encL q9j a))<|
 (gdE (EC.isL q9j (EC.encL q9j b))<|
 (q10h (EC.decL q9j (EC.encL q9j a)) (EC.decL q9j (EC.encL q9j b)) (IntKind.wrap .i64 (i+1))))))))))
 (gdE (EC.isL q9j (EC.encL q9j a))<|
 (gdE (EC.isL q9j (EC.encL q9j b))<|
 (some (.inr (((EC.decL q9j (EC.encL q9j a)),((EC.decL q9j (EC.encL q9j b)),(i,false))),()))))))
theorem q10j {a b i r} (h:q10o a b i=some r):q10h a b i=some r :=
 qjp (es:=q166) (hs:=[]) [] (by kernel_rfl) trivial trivial (by kernel_rfl) h
def q10i:=qk9 Tryz.prog lv X0 4 (qg9 (cdF Tryz.f73) 4) q10n q10k (fun x=>q10h x.1.1 x.1.2.1 x.1.2.2) (fun _ _ h=>qjo h)
def q10e:Cod (V×List B) Bool:=(cFstU (cPair (vC cBool) qjm))
def q10p (a:(List S57)) (b:(List S57)):Option Bool:=fS Tryz.prog lv X0 73 q10d q10e (a,b)
def q10q (a:(List S57)) (b:(List S57)):Option Bool :=
 (brE ((List.length (EC.encL q9j a):Int) != (List.length (EC.encL q9j b):Int))
 (some false)
 (gdE (EC.isL q9j (EC.encL q9j a))<|
 (gdE (EC.isL q9j (EC.encL q9j b))<|
 ((q10h (EC.decL q9j (EC.encL q9j a)) (EC.decL q9j (EC.encL q9j b)) 0).bind fun r0 =>
 (Sum.elim (fun r1=>(some r1.1))
 (fun r1=>(some true)) r0)))))
theorem q10g {a b r} (h:q10q a b=some r):q10p a b=some r :=
 qc8 (es:=q166) (hs:=[]) [q10i] Tryz.func73 rfl (by kernel_rfl) rfl (by kernel_rfl) (by kernel_rfl) ⟨⟨_,rfl,rfl⟩,trivial⟩ trivial (by kernel_rfl) h
def q10f:=entS Tryz.prog lv X0 73 [] q10d q10e (fun x=>q10p x.1 x.2) (fun _ _ h=>qc7 h)
def q16a:=q10f::q166
def q10r:=(qjl (vAgg (qjl (vC (cSl q9j)) (qjn (vC (cSl q9i))))) (qjn (vAgg (qjl (vC (cSl q9j)) (qjn (vC (cSl q9i)))))))
def q10s:Cod (V×List B) Bool:=(cFstU (cPair (vC cBool) qjm))
def q10v (a_Fields:(List S57)) (a_Body:(List Int)) (b_Fields:(List S57)) (b_Body:(List Int)):Option Bool:=fS Tryz.prog lv X0 49 q10r q10s ((a_Fields,a_Body),(b_Fields,b_Body))
def q10w (a_Fields:(List S57)) (a_Body:(List Int)) (b_Fields:(List S57)) (b_Body:(List Int)):Option Bool :=
 (gdE (EC.isL q9j (EC.encL q9j a_Fields))<|
 (gdE (EC.isL q9j (EC.encL q9j b_Fields))<|
 ((q10p (EC.decL q9j (EC.encL q9j a_Fields)) (EC.decL q9j (EC.encL q9j b_Fields))).bind fun r0 =>
 (brE (r0==true)
 ((bytesOf (EC.encL q9i a_Body)).bind fun r1 =>
 ((bytesOf (EC.encL q9i b_Body)).bind fun r2 =>
 (some ((ByteArray.toList (ByteArray.mk (List.toArray r1)))==(ByteArray.toList (ByteArray.mk (List.toArray r2)))))))
 (some false)))))
theorem q10u {a_Fields a_Body b_Fields b_Body r} (h:q10w a_Fields a_Body b_Fields b_Body=some r):q10v a_Fields a_Body b_Fields b_Body=some r :=
 qc8 (es:=q16a) (hs:=[]) [] Tryz.func49 rfl (by kernel_rfl) rfl (by kernel_rfl) (by kernel_rfl) trivial trivial (by kernel_rfl) h
def q10t:=entS Tryz.prog lv X0 49 [] q10r q10s (fun x=>q10v x.1.1 x.1.2 x.2.1 x.2.2) (fun _ _ h=>qc7 h)
def q16b:=q10t::q16a
def q11a:=(qjn (vC cStr))
def q120:=sLS [3,4] (qjl (vRow 0) (qjn (vC (cInt .i64)))) (qjn (qmx (bRow q9l))) [false] [] (by decide) (fun _=>rfl)
def q11z:=sLS [3,4,36] (qjl (vRow 0) (qjl (vC (cInt .i64)) (qjn (vC cBool)))) (qjn (qmx (bRow q9l))) [false] [] (by decide) (fun _=>rfl)
def q11y:=sLS [2] (qjn (vC cBool)) qjm [] [] (by decide) (fun _=>rfl)
def q11x:=oOr 1 q11y (oAt 2 q11z) (fun x=>(by decide:(2:Nat)≠1))
def q11u (l:Nat) (i:Int) (b0:(List ByteArray)):Option ((Bool×Unit)⊕((Nat×Int×Bool)×(List ByteArray))):=lS Tryz.prog lv X0 13 118 (qg9 (cdF Tryz.f13) 5) q120 q11x ((l,i),b0)
def q121 (l:Nat) (i:Int) (b0:(List ByteArray)):Option ((Bool×Unit)⊕((Nat×Int×Bool)×(List ByteArray))) :=
 (gdE ((decide ((0:Int)≤0))&&(decide (0<((l:Nat):Int))))<|
 (gdE ((decide ((Int.toNat 0)<(List.length (EC.encL q9l b0))))&&((List.length (List.getD (EC.encL q9l b0) (Int.toNat 0) []))==1))<|
 (gdE (isP [K1.str] 0 (List.getD (EC.encL q9l b0) (Int.toNat 0) []))<|
 (brE (decide (i<(((ByteArray.size (qrk (List.getD (List.getD (EC.encL q9l b0) (Int.toNat 0) []) 0 C.ne))):Nat):Int)))
 (gdE ((decide ((0:Int)≤0))&&(decide (0<((l:Nat):Int))))<|
 (gdE ((decide ((Int.toNat 0)<(List.length (EC.encL q9l b0))))&&((List.length (List.getD (EC.encL q9l b0) (Int.toNat 0) []))==1))<|
 (gdE (isP [K1.str] 0 (List.getD (EC.encL q9l b0) (Int.toNat 0) []))<|
 (gdE ((decide (0≤i))&&(decide ((Int.toNat i)<(ByteArray.size (qrk (List.getD (List.getD (EC.encL q9l b0) (Int.toNat 0) []) 0 C.ne))))))<|
 (Option.bind (q10b (((UInt8.toNat (Array.getD (ByteArray.data (qrk (List.getD (List.getD (EC.encL q9l b0) (Int.toNat 0) []) 0 C.ne))) (Int.toNat i) (0:UInt8))):Nat):Int)) fun r0 =>
 ((qzz (IntKind.wrap .i64 r0) 97 122).bind fun r1 =>
 (brE ((!r1)==true)
 (Option.bind (qzz (IntKind.wrap .i64 (((UInt8.toNat (Array.getD (ByteArray.data (qrk (List.getD (List.getD (EC.encL q9l b0) (Int.toNat 0) []) 0 C.ne))) (Int.toNat i) (0:UInt8))):Nat):Int)) 48 57) fun r2 =>
 (brE ((!r2)==true)
 (brE (((((UInt8.toNat (Array.getD (ByteArray.data (qrk (List.getD (List.getD (EC.encL q9l b0) (Int.toNat 0) []) 0 C.ne))) (Int.toNat i) (0:UInt8))):Nat):Int) != 45)==true)
 (brE (((((UInt8.toNat (Array.getD (ByteArray.data (qrk (List.getD (List.getD (EC.encL q9l b0) (Int.toNat 0) []) 0 C.ne))) (Int.toNat i) (0:UInt8))):Nat):Int) != 95)==true)
 (brE (((((UInt8.toNat (Array.getD (ByteArray.data (qrk (List.getD (List.getD (EC.encL q9l b0) (Int.toNat 0) []) 0 C.ne))) (Int.toNat i) (0:UInt8))):Nat):Int) != 46)==true)
 (brE (((((UInt8.toNat (Array.getD (ByteArray.data (qrk (List.getD (List.getD (EC.encL q9l b0) (Int.toNat 0) []) 0 C.ne))) (Int.toNat i) (0:UInt8))):Nat):Int) != 43)==true)
 (brE ((((UInt8.toNat (Array.getD (ByteArray.data (qrk (List.getD (List.getD (EC.encL q9l b0) (Int.toNat 0) []) 0 C.ne))) (Int.toNat i) (0:UInt8))):Nat):Int) != 61)
 (some (.inl (false,())))
 (gdE (EC.isL q9l (EC.encL q9l b0))<|
 (q11u l (IntKind.wrap .i64 (i+1)) (EC.decL q9l (EC.encL q9l b0)))))
 (gdE (EC.isL q9l (EC.encL q9l b0))<|
 (q11u l (IntKind.wrap .i64 (i+1)) (EC.decL q9l (EC.encL q9l b0)))))
 (gdE (EC.isL q9l (EC.encL q9l b0))<|
 (q11u l (IntKind.wrap .i64 (i+1)) (EC.decL q9l (EC.encL q9l b0)))))
 (gdE (EC.isL q9l (EC.encL q9l b0))<|
 (q11u l (IntKind.wrap .i64 (i+1)) (EC.decL q9l (EC.encL q9l b0)))))
 (gdE (EC.isL q9l (EC.encL q9l b0))<|
 (q11u l (IntKind.wrap .i64 (i+1)) (EC.decL q9l (EC.encL q9l b0)))))
 (gdE (EC.isL q9l (EC.encL q9l b0))<|
 (q11u l (IntKind.wrap .i64 (i+1)) (EC.decL q9l (EC.encL q9l b0))))))
 (gdE (EC.isL q9l (EC.encL q9l b0))<|
 (q11u l (IntKind.wrap .i64 (i+1)) (EC.decL q9l (EC.encL q9l b0)))))))))))
 (gdE (EC.isL q9l (EC.encL q9l b0))<|
 (some (.inr ((l,(i,false)),(EC.decL q9l (EC.encL q9l b0))))))))))
theorem q11w {l i b0 r} (h:q121 l i b0=some r):q11u l i b0=some r :=
 qjp (es:=q16b) (hs:=[]) [] (by kernel_rfl) trivial trivial (by kernel_rfl) h
def q11v:=qk9 Tryz.prog lv X0 5 (qg9 (cdF Tryz.f13) 5) q120 q11x (fun x=>q11u x.1.1 x.1.2 x.2) (fun _ _ h=>qjo h)
def q11s:=sLS [6,7,8] (qjl (vRow 0) (qjl (vC (cInt .i64)) (qjn (vC (cInt .i64))))) (qjn (qmx (bRow q9l))) [false] [] (by decide) (fun _=>rfl)
def q11r:=sLS [6,7,8,91] (qjl (vRow 0) (qjl (vC (cInt .i64)) (qjl (vC (cInt .i64)) (qjn (vC cBool))))) (qjn (qmx (bRow q9l))) [false] [] (by decide) (fun _=>rfl)
def q11q:=sLS [2] (qjn (vC cBool)) qjm [] [] (by decide) (fun _=>rfl)
def q11p:=oOr 1 q11q (oAt 6 q11r) (fun x=>(by decide:(6:Nat)≠1))
def q11m (labels:Nat) (i:Int) (k:Int) (b0:(List ByteArray)):Option ((Bool×Unit)⊕((Nat×Int×Int×Bool)×(List ByteArray))):=lS Tryz.prog lv X0 13 118 (qg9 (cdF Tryz.f13) 15) q11s q11p ((labels,i,k),b0)
def q11t (labels:Nat) (i:Int) (k:Int) (b0:(List ByteArray)):Option ((Bool×Unit)⊕((Nat×Int×Int×Bool)×(List ByteArray))) :=
 (gdE ((decide (0≤i))&&(decide (i<((labels:Nat):Int))))<|
 (gdE ((decide ((Int.toNat i)<(List.length (EC.encL q9l b0))))&&((List.length (List.getD (EC.encL q9l b0) (Int.toNat i) []))==1))<|
 (gdE (isP [K1.str] 0 (List.getD (EC.encL q9l b0) (Int.toNat i) []))<|
 (brE (decide (k<(((ByteArray.size (qrk (List.getD (List.getD (EC.encL q9l b0) (Int.toNat i) []) 0 C.ne))):Nat):Int)))
 (gdE ((decide (0≤i))&&(decide (i<((labels:Nat):Int))))<|
 (gdE ((decide ((Int.toNat i)<(List.length (EC.encL q9l b0))))&&((List.length (List.getD (EC.encL q9l b0) (Int.toNat i) []))==1))<|
 (gdE (isP [K1.str] 0 (List.getD (EC.encL q9l b0) (Int.toNat i) []))<|
 (gdE ((decide (0≤k))&&(decide ((Int.toNat k)<(ByteArray.size (qrk (List.getD (List.getD (EC.encL q9l b0) (Int.toNat i) []) 0 C.ne))))))<|
 (Option.bind (qzz (IntKind.wrap .i64 (((UInt8.toNat (Array.getD (ByteArray.data (qrk (List.getD (List.getD (EC.encL q9l b0) (Int.toNat i) []) 0 C.ne))) (Int.toNat k) (0:UInt8))):Nat):Int)) 97 122) fun r0 =>
 (brE ((!r0)==true)
 (Option.bind (qzz (IntKind.wrap .i64 (((UInt8.toNat (Array.getD (ByteArray.data (qrk (List.getD (List.getD (EC.encL q9l b0) (Int.toNat i) []) 0 C.ne))) (Int.toNat k) (0:UInt8))):Nat):Int)) 48 57) fun r1 =>
 (brE ((!r1)==true)
 (brE ((IntKind.wrap .i64 (((UInt8.toNat (Array.getD (ByteArray.data (qrk (List.getD (List.getD (EC.encL q9l b0) (Int.toNat i) []) 0 C.ne))) (Int.toNat k) (0:UInt8))):Nat):Int)) != 45)
 (some (.inl (false,())))
 (gdE (EC.isL q9l (EC.encL q9l b0))<|
 (q11m labels i (IntKind.wrap .i64 (k+1)) (EC.decL q9l (EC.encL q9l b0)))))
 (gdE (EC.isL q9l (EC.encL q9l b0))<|
 (q11m labels i (IntKind.wrap .i64 (k+1)) (EC.decL q9l (EC.encL q9l b0))))))
 (gdE (EC.isL q9l (EC.encL q9l b0))<|
 (q11m labels i (IntKind.wrap .i64 (k+1)) (EC.decL q9l (EC.encL q9l b0))))))))))
 (gdE (EC.isL q9l (EC.encL q9l b0))<|
 (some (.inr ((labels,(i,(k,false))),(EC.decL q9l (EC.encL q9l b0))))))))))
theorem q11o {labels i k b0 r} (h:q11t labels i k b0=some r):q11m labels i k b0=some r :=
 qjp (es:=q16b) (hs:=[]) [] (by kernel_rfl) trivial trivial (by kernel_rfl) h
def q11n:=qk9 Tryz.prog lv X0 15 (qg9 (cdF Tryz.f13) 15) q11s q11p (fun x=>q11m x.1.1 x.1.2.1 x.1.2.2 x.2) (fun _ _ h=>qjo h)
def q11k:=sLS [6,7] (qjl (vRow 0) (qjn (vC (cInt .i64)))) (qjn (qmx (bRow q9l))) [false] [] (by decide) (fun _=>rfl)
def q11j:=sLS [6,7,82] (qjl (vRow 0) (qjl (vC (cInt .i64)) (qjn (vC cBool)))) (qjn (qmx (bRow q9l))) [false] [] (by decide) (fun _=>rfl)
def q11i:=sLS [2] (qjn (vC cBool)) qjm [] [] (by decide) (fun _=>rfl)
def q11h:=oOr 1 q11i (oAt 4 q11j) (fun x=>(by decide:(4:Nat)≠1))
def q11e (labels:Nat) (i:Int) (b0:(List ByteArray)):Option ((Bool×Unit)⊕((Nat×Int×Bool)×(List ByteArray))):=lS Tryz.prog lv X0 13 118 (qg9 (cdF Tryz.f13) 12) q11k q11h ((labels,i),b0)
def q11l (labels:Nat) (i:Int) (b0:(List ByteArray)):Option ((Bool×Unit)⊕((Nat×Int×Bool)×(List ByteArray))) :=
 (brE (decide (i<((labels:Nat):Int)))
 (gdE (EC.isL q9l (EC.encL q9l b0))<|
 ((q11m labels i 0 (EC.decL q9l (EC.encL q9l b0))).bind fun r0 =>
 (Sum.elim (fun r1=>(some (.inl (r1.1,()))))
 (fun r1=>(gdE ((decide (0≤r1.1.2.1))&&(decide (r1.1.2.1<((r1.1.1:Nat):Int))))<|
 (gdE ((decide ((Int.toNat r1.1.2.1)<(List.length (EC.encL q9l r1.2))))&&((List.length (List.getD (EC.encL q9l r1.2) (Int.toNat r1.1.2.1) []))==1))<|
 (gdE (isP [K1.str] 0 (List.getD (EC.encL q9l r1.2) (Int.toNat r1.1.2.1) []))<|
 (brE ((ByteArray.toList (qrk (List.getD (List.getD (EC.encL q9l r1.2) (Int.toNat r1.1.2.1) []) 0 C.ne)))==(ByteArray.toList ⟨#[]⟩))
 (some (.inl (false,())))
 (gdE (EC.isL q9l (EC.encL q9l r1.2))<|
 (q11e r1.1.1 (IntKind.wrap .i64 (r1.1.2.1+1)) (EC.decL q9l (EC.encL q9l r1.2))))))))) r0)))
 (gdE (EC.isL q9l (EC.encL q9l b0))<|
 (some (.inr ((labels,(i,false)),(EC.decL q9l (EC.encL q9l b0)))))))
theorem q11g {labels i b0 r} (h:q11l labels i b0=some r):q11e labels i b0=some r :=
 qjp (es:=q16b) (hs:=[]) [q11n] (by kernel_rfl) ⟨⟨_,rfl,rfl⟩,trivial⟩ trivial (by kernel_rfl) h
def q11f:=qk9 Tryz.prog lv X0 12 (qg9 (cdF Tryz.f13) 12) q11k q11h (fun x=>q11e x.1.1 x.1.2 x.2) (fun _ _ h=>qjo h)
def q11b:Cod (V×List B) Bool:=(cFstU (cPair (vC cBool) qjm))
def q122 (s:ByteArray):Option Bool:=fS Tryz.prog lv X0 13 q11a q11b s
def q123 (s:ByteArray):Option Bool :=
 ((qzt s (ByteArray.mk (List.toArray [(64:UInt8)]))).bind fun r0 =>
 (brE ((((r0.1:Nat):Int) != 2)==false)
 (gdE ((decide ((0:Int)≤0))&&(decide (0<((r0.1:Nat):Int))))<|
 (gdE ((decide ((Int.toNat 0)<(List.length (EC.encL q9l r0.2))))&&((List.length (List.getD (EC.encL q9l r0.2) (Int.toNat 0) []))==1))<|
 (gdE (isP [K1.str] 0 (List.getD (EC.encL q9l r0.2) (Int.toNat 0) []))<|
 (Option.bind (qzz (((ByteArray.size (qrk (List.getD (List.getD (EC.encL q9l r0.2) (Int.toNat 0) []) 0 C.ne))):Nat):Int) 1 60) fun r1 =>
 (brE ((!r1)==false)
 (gdE ((decide ((0:Int)≤1))&&(decide (1<((r0.1:Nat):Int))))<|
 (gdE ((decide ((Int.toNat 1)<(List.length (EC.encL q9l r0.2))))&&((List.length (List.getD (EC.encL q9l r0.2) (Int.toNat 1) []))==1))<|
 (gdE (isP [K1.str] 0 (List.getD (EC.encL q9l r0.2) (Int.toNat 1) []))<|
 (Option.bind (qzz (((ByteArray.size (qrk (List.getD (List.getD (EC.encL q9l r0.2) (Int.toNat 1) []) 0 C.ne))):Nat):Int) 1 60) fun r2 =>
 (brE (!r2)
 (some false)
 (gdE (EC.isL q9l (EC.encL q9l r0.2))<|
 ((q11u r0.1 0 (EC.decL q9l (EC.encL q9l r0.2))).bind fun r3 =>
 (Sum.elim (fun r4=>(some r4.1))
 (fun r4=>(gdE ((decide ((0:Int)≤1))&&(decide (1<((r4.1.1:Nat):Int))))<|
 (gdE ((decide ((Int.toNat 1)<(List.length (EC.encL q9l r4.2))))&&((List.length (List.getD (EC.encL q9l r4.2) (Int.toNat 1) []))==1))<|
 (gdE (isP [K1.str] 0 (List.getD (EC.encL q9l r4.2) (Int.toNat 1) []))<|
 ((qzt (qrk (List.getD (List.getD (EC.encL q9l r4.2) (Int.toNat 1) []) 0 C.ne)) (ByteArray.mk (List.toArray [(46:UInt8)]))).bind fun r5 =>
 (gdE (EC.isL q9l (EC.encL q9l r5.2))<|
 ((q11e r5.1 0 (EC.decL q9l (EC.encL q9l r5.2))).bind fun r6 =>
 (Sum.elim (fun r7=>(some r7.1))
 (fun r7=>(some true)) r6)))))))) r3))))))))
 (some false))))))
 (some false)))
theorem q11d {s r} (h:q123 s=some r):q122 s=some r :=
 qc8 (es:=q16b) (hs:=[]) [q11v,q11f] Tryz.func13 rfl (by kernel_rfl) rfl (by kernel_rfl) (by kernel_rfl) ⟨⟨_,rfl,rfl⟩,⟨_,rfl,rfl⟩,trivial⟩ trivial (by kernel_rfl) h
def q11c:=entS Tryz.prog lv X0 13 [] q11a q11b (fun x=>q122 x) (fun _ _ h=>qc7 h)
def q16d:=q11c::q16b
def q13f:=(qjn (vC (cSl q9h)))
def q13p:=sLS [0,2,3] (qjl (vC (cSl q9h)) (qjl (vPtr 0 0) (qjn (vC (cInt .i64))))) (qjn (qmx (bBox (qjl (vC (cInt .i64)) (qjn (vC (cInt .i64))))))) [false] [] (by decide) (fun _=>rfl)
def q13o:=sLS [0,2,3,11] (qjl (vC (cSl q9h)) (qjl (vPtr 0 0) (qjl (vC (cInt .i64)) (qjn (vC cBool))))) (qjn (qmx (bBox (qjl (vC (cInt .i64)) (qjn (vC (cInt .i64))))))) [false] [] (by decide) (fun _=>rfl)
def q13n:=sLS [2] (qjn (vPtr 0 0)) (qjn (qmx (bBox (qjl (vC (cInt .i64)) (qjn (vC (cInt .i64))))))) [false] [] (by decide) (fun _=>rfl)
def q13m:=oOr 1 q13n (oAt 2 q13o) (fun x=>(by decide:(2:Nat)≠1))
def q13j (r_:(List S44)) (i:Int) (b0:Int) (b0_1:Int):Option ((Unit×(Int×Int))⊕(((List S44)×Unit×Int×Bool)×(Int×Int))):=lS Tryz.prog lv X0 8 51 (qg9 (cdF Tryz.f8) 4) q13p q13m ((r_,(),i),(b0,b0_1))
def q13q (r_:(List S44)) (i:Int) (b0:Int) (b0_1:Int):Option ((Unit×(Int×Int))⊕(((List S44)×Unit×Int×Bool)×(Int×Int))) :=
 (brE (decide (i<(List.length (EC.encL q9h r_):Int)))
 (gdE (decide (0≤i))<|
 (gdE ((decide ((Int.toNat i)<(List.length (EC.encL q9h r_))))&&(isE [K1.str,(K1.int Go.IntKind.i64)] 0 (List.getD (EC.encL q9h r_) (Int.toNat i) [])))<|
 ((q122 (qrk (List.getD (List.getD (EC.encL q9h r_) (Int.toNat i) []) 0 C.ne))).bind fun r0 =>
 (brE (!r0)
 ((qzg 10 i).bind fun r1 =>
 (some (.inl ((),(r1.1,r1.2)))))
 (gdE (decide (0≤i))<|
 (gdE ((decide ((Int.toNat i)<(List.length (EC.encL q9h r_))))&&(isE [K1.str,(K1.int Go.IntKind.i64)] 0 (List.getD (EC.encL q9h r_) (Int.toNat i) [])))<|
 ((q105 (qiy (List.getD (List.getD (EC.encL q9h r_) (Int.toNat i) []) 1 C.ne))).bind fun r1 =>
 (brE (!r1)
 ((qzg 3 i).bind fun r2 =>
 (some (.inl ((),(r2.1,r2.2)))))
 (brE ((decide (i>0))==true)
 (gdE (decide (0≤i))<|
 (gdE ((decide ((Int.toNat i)<(List.length (EC.encL q9h r_))))&&(isE [K1.str,(K1.int Go.IntKind.i64)] 0 (List.getD (EC.encL q9h r_) (Int.toNat i) [])))<|
 (gdE (decide (0≤(IntKind.wrap .i64 (i - 1))))<|
 (gdE ((decide ((Int.toNat (IntKind.wrap .i64 (i - 1)))<(List.length (EC.encL q9h r_))))&&(isE [K1.str,(K1.int Go.IntKind.i64)] 0 (List.getD (EC.encL q9h r_) (Int.toNat (IntKind.wrap .i64 (i - 1))) [])))<|
 (brE ((Go.Op.bytesLess (ByteArray.toList (qrk (List.getD (List.getD (EC.encL q9h r_) (Int.toNat i) []) 0 C.ne))) (ByteArray.toList (qrk (List.getD (List.getD (EC.encL q9h r_) (Int.toNat (IntKind.wrap .i64 (i - 1))) []) 0 C.ne))))||((ByteArray.toList (qrk (List.getD (List.getD (EC.encL q9h r_) (Int.toNat i) []) 0 C.ne)))==(ByteArray.toList (qrk (List.getD (List.getD (EC.encL q9h r_) (Int.toNat (IntKind.wrap .i64 (i - 1))) []) 0 C.ne)))))
 ((qzg 19 i).bind fun r2 =>
 (some (.inl ((),(r2.1,r2.2)))))
 (gdE (EC.isL q9h (EC.encL q9h r_))<|
 (q13j (EC.decL q9h (EC.encL q9h r_)) (IntKind.wrap .i64 (i+1)) b0 b0_1)))))))
 (gdE (EC.isL q9h (EC.encL q9h r_))<|
 (q13j (EC.decL q9h (EC.encL q9h r_)) (IntKind.wrap .i64 (i+1)) b0 b0_1)))))))))))
 (gdE (EC.isL q9h (EC.encL q9h r_))<|
 (some (.inr (((EC.decL q9h (EC.encL q9h r_)),((),(i,false))),(b0,b0_1))))))
theorem q13l {r_ i b0 b0_1 r} (h:q13q r_ i b0 b0_1=some r):q13j r_ i b0 b0_1=some r :=
 qjp (es:=q16d) (hs:=[]) [] (by kernel_rfl) trivial trivial (by kernel_rfl) h
def q13k:=qk9 Tryz.prog lv X0 4 (qg9 (cdF Tryz.f8) 4) q13p q13m (fun x=>q13j x.1.1 x.1.2.2 x.2.1 x.2.2) (fun _ _ h=>qjo h)
def q13g:Cod (V×List B) (Int×Int):=(cFstU (cPair (vAgg (qjl (vC (cInt .i64)) (qjn (vC (cInt .i64))))) qjm))
def q13r (r_:(List S44)):Option (Int×Int):=fS Tryz.prog lv X0 8 q13f q13g r_
def q13s (r_:(List S44)):Option (Int×Int) :=
 (brE (decide ((List.length (EC.encL q9h r_):Int)>300))
 ((qzg 2 (-1)).bind fun r0 =>
 (some (r0.1,r0.2)))
 (gdE (EC.isL q9h (EC.encL q9h r_))<|
 ((q13j (EC.decL q9h (EC.encL q9h r_)) 0 0 0).bind fun r0 =>
 (Sum.elim (fun r1=>(some (r1.2.1,r1.2.2)))
 (fun r1=>(some (0,0))) r0))))
theorem q13i {r_ r} (h:q13s r_=some r):q13r r_=some r :=
 qc8 (es:=q16d) (hs:=[]) [q13k] Tryz.func8 rfl (by kernel_rfl) rfl (by kernel_rfl) (by kernel_rfl) ⟨⟨_,rfl,rfl⟩,trivial⟩ trivial (by kernel_rfl) h
def q13h:=entS Tryz.prog lv X0 8 [] q13f q13g (fun x=>q13r x) (fun _ _ h=>qc7 h)
def q16i:=q13h::q16d
def q15a:=(qjn (vC cStr))
def q15j:=sLS [0,3,4] (qjl (vC cStr) (qjl (vC cStr) (qjn (vC (cInt .i64))))) qjm [] [] (by decide) (fun _=>rfl)
def q15i:=sLS [0,3,4,8] (qjl (vC cStr) (qjl (vC cStr) (qjl (vC (cInt .i64)) (qjn (vC cBool))))) qjm [] [] (by decide) (fun _=>rfl)
def q15h:=oAt 2 q15i
def q15e (s:ByteArray) (out:ByteArray) (i:Int):Option ((ByteArray×ByteArray×Int×Bool)×Unit):=lS Tryz.prog lv X0 71 20 (qg9 (cdF Tryz.f71) 3) q15j q15h ((s,out,i),())
def q15k (s:ByteArray) (out:ByteArray) (i:Int):Option ((ByteArray×ByteArray×Int×Bool)×Unit) :=
 (brE (decide (i<(s.size:Int)))
 (gdE ((decide (0≤i))&&(decide ((Int.toNat i)<s.size)))<|
 ((q10b (((UInt8.toNat (Array.getD s.data (Int.toNat i) (0:UInt8))):Nat):Int)).bind fun r0 =>
 (brE (decide ((((out.size+(ByteArray.size (ByteArray.mk (List.toArray [(UInt8.ofNat (Int.toNat r0))])))):Nat):Int)>(Go.IntKind.max Go.IntKind.i64)))
 none
 (q15e s (out++(ByteArray.mk (List.toArray [(UInt8.ofNat (Int.toNat r0))]))) (IntKind.wrap .i64 (i+1))))))
 (some ((s,(out,(i,false))),())))
theorem q15g {s out i r} (h:q15k s out i=some r):q15e s out i=some r :=
 qjp (es:=q16i) (hs:=[]) [] (by kernel_rfl) trivial trivial (by kernel_rfl) h
def q15f:=qk9 Tryz.prog lv X0 3 (qg9 (cdF Tryz.f71) 3) q15j q15h (fun x=>q15e x.1.1 x.1.2.1 x.1.2.2) (fun _ _ h=>qjo h)
def q15b:Cod (V×List B) ByteArray:=(cFstU (cPair (vC cStr) qjm))
def q15l (s:ByteArray):Option ByteArray:=fS Tryz.prog lv X0 71 q15a q15b s
def q15m (s:ByteArray):Option ByteArray :=
 ((q15e s ⟨#[]⟩ 0).bind fun r0 =>
 (some r0.1.2.1))
theorem q15d {s r} (h:q15m s=some r):q15l s=some r :=
 qc8 (es:=q16i) (hs:=[]) [q15f] Tryz.func71 rfl (by kernel_rfl) rfl (by kernel_rfl) (by kernel_rfl) ⟨⟨_,rfl,rfl⟩,trivial⟩ trivial (by kernel_rfl) h
def q15c:=entS Tryz.prog lv X0 71 [] q15a q15b (fun x=>q15l x) (fun _ _ h=>qc7 h)
def q16o:=q15c::q16i
def q124:=(qjn (vAgg (qjl (vC (cSl q9j)) (qjn (vC (cSl q9i))))))
def q12e:=sLS [1,3] (qjl (vPtr 0 0) (qjn (vC (cInt .i64)))) (qjn (qmx (bBox (qjl (vC (cSl q9j)) (qjn (vC (cSl q9i))))))) [false] [] (by decide) (fun _=>rfl)
def q12d:=sLS [1,3,9] (qjl (vPtr 0 0) (qjl (vC (cInt .i64)) (qjn (vC cBool)))) (qjn (qmx (bBox (qjl (vC (cSl q9j)) (qjn (vC (cSl q9i))))))) [false] [] (by decide) (fun _=>rfl)
def q12c:=sLS [2] (qjn (vC cBool)) qjm [] [] (by decide) (fun _=>rfl)
def q12b:=oOr 1 q12c (oAt 2 q12d) (fun x=>(by decide:(2:Nat)≠1))
def q128 (i:Int) (b0:(List S57)) (b0_1:(List Int)):Option ((Bool×Unit)⊕((Unit×Int×Bool)×((List S57)×(List Int)))):=lS Tryz.prog lv X0 46 58 (qg9 (cdF Tryz.f46) 2) q12e q12b (((),i),(b0,b0_1))
def q12f (i:Int) (b0:(List S57)) (b0_1:(List Int)):Option ((Bool×Unit)⊕((Unit×Int×Bool)×((List S57)×(List Int)))) :=
 (brE (decide (i<(List.length (EC.encL q9j b0):Int)))
 (gdE (decide (0≤i))<|
 (gdE ((decide ((Int.toNat i)<(List.length (EC.encL q9j b0))))&&(isE [K1.str,K1.str] 0 (List.getD (EC.encL q9j b0) (Int.toNat i) [])))<|
 ((q15l (qrk (List.getD (List.getD (EC.encL q9j b0) (Int.toNat i) []) 1 C.ne))).bind fun r0 =>
 (gdE (decide (0≤i))<|
 (gdE ((decide ((Int.toNat i)<(List.length (EC.encL q9j b0))))&&(isE [K1.str,K1.str] 0 (List.getD (EC.encL q9j b0) (Int.toNat i) [])))<|
 ((qza (qrk (List.getD (List.getD (EC.encL q9j b0) (Int.toNat i) []) 0 C.ne)) (ByteArray.mk (List.toArray [(108:UInt8),(105:UInt8),(115:UInt8),(116:UInt8),(45:UInt8),(105:UInt8),(100:UInt8)]))).bind fun r1 =>
 (brE (r1==false)
 (gdE (decide (0≤i))<|
 (gdE ((decide ((Int.toNat i)<(List.length (EC.encL q9j b0))))&&(isE [K1.str,K1.str] 0 (List.getD (EC.encL q9j b0) (Int.toNat i) [])))<|
 ((qza (qrk (List.getD (List.getD (EC.encL q9j b0) (Int.toNat i) []) 0 C.ne)) (ByteArray.mk (List.toArray [(97:UInt8),(117:UInt8),(116:UInt8),(111:UInt8),(45:UInt8),(115:UInt8),(117:UInt8),(98:UInt8),(109:UInt8),(105:UInt8),(116:UInt8),(116:UInt8),(101:UInt8),(100:UInt8)]))).bind fun r2 =>
 (brE (r2==true)
 (brE (!(r0.toList==(ByteArray.toList (ByteArray.mk (List.toArray [(110:UInt8),(111:UInt8)])))))
 (some (.inl (true,())))
 (gdE (decide (0≤i))<|
 (gdE ((decide ((Int.toNat i)<(List.length (EC.encL q9j b0))))&&(isE [K1.str,K1.str] 0 (List.getD (EC.encL q9j b0) (Int.toNat i) [])))<|
 ((qza (qrk (List.getD (List.getD (EC.encL q9j b0) (Int.toNat i) []) 0 C.ne)) (ByteArray.mk (List.toArray [(112:UInt8),(114:UInt8),(101:UInt8),(99:UInt8),(101:UInt8),(100:UInt8),(101:UInt8),(110:UInt8),(99:UInt8),(101:UInt8)]))).bind fun r3 =>
 (brE (r3==true)
 (brE ((r0.toList==(ByteArray.toList (ByteArray.mk (List.toArray [(98:UInt8),(117:UInt8),(108:UInt8),(107:UInt8)]))))==false)
 (brE ((r0.toList==(ByteArray.toList (ByteArray.mk (List.toArray [(108:UInt8),(105:UInt8),(115:UInt8),(116:UInt8)]))))==false)
 (brE (r0.toList==(ByteArray.toList (ByteArray.mk (List.toArray [(106:UInt8),(117:UInt8),(110:UInt8),(107:UInt8)]))))
 (some (.inl (true,())))
 (gdE (EC.isL q9j (EC.encL q9j b0))<|
 (gdE (EC.isL q9i (EC.encL q9i b0_1))<|
 (q128 (IntKind.wrap .i64 (i+1)) (EC.decL q9j (EC.encL q9j b0)) (EC.decL q9i (EC.encL q9i b0_1))))))
 (some (.inl (true,()))))
 (some (.inl (true,()))))
 (gdE (EC.isL q9j (EC.encL q9j b0))<|
 (gdE (EC.isL q9i (EC.encL q9i b0_1))<|
 (q128 (IntKind.wrap .i64 (i+1)) (EC.decL q9j (EC.encL q9j b0)) (EC.decL q9i (EC.encL q9i b0_1))))))))))
 (gdE (decide (0≤i))<|
 (gdE ((decide ((Int.toNat i)<(List.length (EC.encL q9j b0))))&&(isE [K1.str,K1.str] 0 (List.getD (EC.encL q9j b0) (Int.toNat i) [])))<|
 ((qza (qrk (List.getD (List.getD (EC.encL q9j b0) (Int.toNat i) []) 0 C.ne)) (ByteArray.mk (List.toArray [(112:UInt8),(114:UInt8),(101:UInt8),(99:UInt8),(101:UInt8),(100:UInt8),(101:UInt8),(110:UInt8),(99:UInt8),(101:UInt8)]))).bind fun r3 =>
 (brE (r3==true)
 (brE ((r0.toList==(ByteArray.toList (ByteArray.mk (List.toArray [(98:UInt8),(117:UInt8),(108:UInt8),(107:UInt8)]))))==false)
 (brE ((r0.toList==(ByteArray.toList (ByteArray.mk (List.toArray [(108:UInt8),(105:UInt8),(115:UInt8),(116:UInt8)]))))==false)
 (brE (r0.toList==(ByteArray.toList (ByteArray.mk (List.toArray [(106:UInt8),(117:UInt8),(110:UInt8),(107:UInt8)]))))
 (some (.inl (true,())))
 (gdE (EC.isL q9j (EC.encL q9j b0))<|
 (gdE (EC.isL q9i (EC.encL q9i b0_1))<|
 (q128 (IntKind.wrap .i64 (i+1)) (EC.decL q9j (EC.encL q9j b0)) (EC.decL q9i (EC.encL q9i b0_1))))))
 (some (.inl (true,()))))
 (some (.inl (true,()))))
 (gdE (EC.isL q9j (EC.encL q9j b0))<|
 (gdE (EC.isL q9i (EC.encL q9i b0_1))<|
 (q128 (IntKind.wrap .i64 (i+1)) (EC.decL q9j (EC.encL q9j b0)) (EC.decL q9i (EC.encL q9i b0_1)))))))))))))
 (some (.inl (true,()))))))))))
 (gdE (EC.isL q9j (EC.encL q9j b0))<|
 (gdE (EC.isL q9i (EC.encL q9i b0_1))<|
 (some (.inr (((),(i,false)),((EC.decL q9j (EC.encL q9j b0)),(EC.decL q9i (EC.encL q9i b0_1)))))))))
theorem q12a {i b0 b0_1 r} (h:q12f i b0 b0_1=some r):q128 i b0 b0_1=some r :=
 qjp (es:=q16o) (hs:=[]) [] (by kernel_rfl) trivial trivial (by kernel_rfl) h
def q129:=qk9 Tryz.prog lv X0 2 (qg9 (cdF Tryz.f46) 2) q12e q12b (fun x=>q128 x.1.2 x.2.1 x.2.2) (fun _ _ h=>qjo h)
def q125:Cod (V×List B) Bool:=(cFstU (cPair (vC cBool) qjm))
def q12g (m_Fields:(List S57)) (m_Body:(List Int)):Option Bool:=fS Tryz.prog lv X0 46 q124 q125 (m_Fields,m_Body)
def q12h (m_Fields:(List S57)) (m_Body:(List Int)):Option Bool :=
 (gdE (EC.isL q9j (EC.encL q9j m_Fields))<|
 (gdE (EC.isL q9i (EC.encL q9i m_Body))<|
 ((q128 0 (EC.decL q9j (EC.encL q9j m_Fields)) (EC.decL q9i (EC.encL q9i m_Body))).bind fun r0 =>
 (Sum.elim (fun r1=>(some r1.1))
 (fun r1=>(some false)) r0))))
theorem q127 {m_Fields m_Body r} (h:q12h m_Fields m_Body=some r):q12g m_Fields m_Body=some r :=
 qc8 (es:=q16o) (hs:=[]) [q129] Tryz.func46 rfl (by kernel_rfl) rfl (by kernel_rfl) (by kernel_rfl) ⟨⟨_,rfl,rfl⟩,trivial⟩ trivial (by kernel_rfl) h
def q126:=entS Tryz.prog lv X0 46 [] q124 q125 (fun x=>q12g x.1 x.2) (fun _ _ h=>qc7 h)
def q16e:=q126::q16o
def q12o:=(qjn (vC cStr))
def q12x:=sLS [0,3,4] (qjl (vC cStr) (qjl (vRow 0) (qjn (vC (cInt .i64))))) (qjn (qmx (bRow q9i))) [false] [] (by decide) (fun _=>rfl)
def q12w:=sLS [0,3,4,8] (qjl (vC cStr) (qjl (vRow 0) (qjl (vC (cInt .i64)) (qjn (vC cBool))))) (qjn (qmx (bRow q9i))) [false] [] (by decide) (fun _=>rfl)
def q12v:=oAt 2 q12w
def q12s (text:ByteArray) (out:Nat) (i:Int) (b0:(List Int)):Option ((ByteArray×Nat×Int×Bool)×(List Int)):=lS Tryz.prog lv X0 48 66 (qg9 (cdF Tryz.f48) 3) q12x q12v ((text,out,i),b0)
def q12y (text:ByteArray) (out:Nat) (i:Int) (b0:(List Int)):Option ((ByteArray×Nat×Int×Bool)×(List Int)) :=
 (brE (decide (i<(text.size:Int)))
 (gdE ((decide (0≤i))&&(decide ((Int.toNat i)<text.size)))<|
 (brE (((((UInt8.toNat (Array.getD text.data (Int.toNat i) (0:UInt8))):Nat):Int) != 13)==true)
 (gdE ((decide (0≤i))&&(decide ((Int.toNat i)<text.size)))<|
 (brE ((((UInt8.toNat (Array.getD text.data (Int.toNat i) (0:UInt8))):Nat):Int) != 10)
 (gdE ((decide (0≤i))&&(decide ((Int.toNat i)<text.size)))<|
 (gdE ((((List.all [[(C.int Go.IntKind.u8 (((UInt8.toNat (Array.getD text.data (Int.toNat i) (0:UInt8))):Nat):Int))]] (fun (el:(List C))=>((List.length el)==1)))&&(List.all (EC.encL q9i b0) (fun (el:(List C))=>((List.length el)==1))))&&(decide (((((out+(List.length [[(C.int Go.IntKind.u8 (((UInt8.toNat (Array.getD text.data (Int.toNat i) (0:UInt8))):Nat):Int))]]))+((out+(List.length [[(C.int Go.IntKind.u8 (((UInt8.toNat (Array.getD text.data (Int.toNat i) (0:UInt8))):Nat):Int))]])) / 4))+192)*1)≤281474976710656)))&&(decide ((out+(List.length [[(C.int Go.IntKind.u8 (((UInt8.toNat (Array.getD text.data (Int.toNat i) (0:UInt8))):Nat):Int))]]))≤9223372036854775807)))<|
 (gdE (EC.isL q9i ((EC.encL q9i b0)++[[(C.int Go.IntKind.u8 (((UInt8.toNat (Array.getD text.data (Int.toNat i) (0:UInt8))):Nat):Int))]]))<|
 (q12s text (out+(List.length [[(C.int Go.IntKind.u8 (((UInt8.toNat (Array.getD text.data (Int.toNat i) (0:UInt8))):Nat):Int))]])) (IntKind.wrap .i64 (i+1)) (EC.decL q9i ((EC.encL q9i b0)++[[(C.int Go.IntKind.u8 (((UInt8.toNat (Array.getD text.data (Int.toNat i) (0:UInt8))):Nat):Int))]]))))))
 (gdE ((decide (0≤i))&&(decide ((Int.toNat i)<text.size)))<|
 (brE (((((UInt8.toNat (Array.getD text.data (Int.toNat i) (0:UInt8))):Nat):Int)==13)==true)
 (brE ((decide ((IntKind.wrap .i64 (i+1))<(text.size:Int)))==true)
 (gdE ((decide (0≤(IntKind.wrap .i64 (i+1))))&&(decide ((Int.toNat (IntKind.wrap .i64 (i+1)))<text.size)))<|
 (brE ((((UInt8.toNat (Array.getD text.data (Int.toNat (IntKind.wrap .i64 (i+1))) (0:UInt8))):Nat):Int)==10)
 (gdE ((((List.all [[(C.int Go.IntKind.u8 13)],[(C.int Go.IntKind.u8 10)]] (fun (el:(List C))=>((List.length el)==1)))&&(List.all (EC.encL q9i b0) (fun (el:(List C))=>((List.length el)==1))))&&(decide (((((out+(List.length [[(C.int Go.IntKind.u8 13)],[(C.int Go.IntKind.u8 10)]]))+((out+(List.length [[(C.int Go.IntKind.u8 13)],[(C.int Go.IntKind.u8 10)]])) / 4))+192)*1)≤281474976710656)))&&(decide ((out+(List.length [[(C.int Go.IntKind.u8 13)],[(C.int Go.IntKind.u8 10)]]))≤9223372036854775807)))<|
 (gdE (EC.isL q9i ((EC.encL q9i b0)++[[(C.int Go.IntKind.u8 13)],[(C.int Go.IntKind.u8 10)]]))<|
 (q12s text (out+(List.length [[(C.int Go.IntKind.u8 13)],[(C.int Go.IntKind.u8 10)]])) (IntKind.wrap .i64 ((IntKind.wrap .i64 (i+1))+1)) (EC.decL q9i ((EC.encL q9i b0)++[[(C.int Go.IntKind.u8 13)],[(C.int Go.IntKind.u8 10)]])))))
 (gdE ((((List.all [[(C.int Go.IntKind.u8 13)],[(C.int Go.IntKind.u8 10)]] (fun (el:(List C))=>((List.length el)==1)))&&(List.all (EC.encL q9i b0) (fun (el:(List C))=>((List.length el)==1))))&&(decide (((((out+(List.length [[(C.int Go.IntKind.u8 13)],[(C.int Go.IntKind.u8 10)]]))+((out+(List.length [[(C.int Go.IntKind.u8 13)],[(C.int Go.IntKind.u8 10)]])) / 4))+192)*1)≤281474976710656)))&&(decide ((out+(List.length [[(C.int Go.IntKind.u8 13)],[(C.int Go.IntKind.u8 10)]]))≤9223372036854775807)))<|
 (gdE (EC.isL q9i ((EC.encL q9i b0)++[[(C.int Go.IntKind.u8 13)],[(C.int Go.IntKind.u8 10)]]))<|
 (q12s text (out+(List.length [[(C.int Go.IntKind.u8 13)],[(C.int Go.IntKind.u8 10)]])) (IntKind.wrap .i64 (i+1)) (EC.decL q9i ((EC.encL q9i b0)++[[(C.int Go.IntKind.u8 13)],[(C.int Go.IntKind.u8 10)]])))))))
 (gdE ((((List.all [[(C.int Go.IntKind.u8 13)],[(C.int Go.IntKind.u8 10)]] (fun (el:(List C))=>((List.length el)==1)))&&(List.all (EC.encL q9i b0) (fun (el:(List C))=>((List.length el)==1))))&&(decide (((((out+(List.length [[(C.int Go.IntKind.u8 13)],[(C.int Go.IntKind.u8 10)]]))+((out+(List.length [[(C.int Go.IntKind.u8 13)],[(C.int Go.IntKind.u8 10)]])) / 4))+192)*1)≤281474976710656)))&&(decide ((out+(List.length [[(C.int Go.IntKind.u8 13)],[(C.int Go.IntKind.u8 10)]]))≤9223372036854775807)))<|
 (gdE (EC.isL q9i ((EC.encL q9i b0)++[[(C.int Go.IntKind.u8 13)],[(C.int Go.IntKind.u8 10)]]))<|
 (q12s text (out+(List.length [[(C.int Go.IntKind.u8 13)],[(C.int Go.IntKind.u8 10)]])) (IntKind.wrap .i64 (i+1)) (EC.decL q9i ((EC.encL q9i b0)++[[(C.int Go.IntKind.u8 13)],[(C.int Go.IntKind.u8 10)]]))))))
 (gdE ((((List.all [[(C.int Go.IntKind.u8 13)],[(C.int Go.IntKind.u8 10)]] (fun (el:(List C))=>((List.length el)==1)))&&(List.all (EC.encL q9i b0) (fun (el:(List C))=>((List.length el)==1))))&&(decide (((((out+(List.length [[(C.int Go.IntKind.u8 13)],[(C.int Go.IntKind.u8 10)]]))+((out+(List.length [[(C.int Go.IntKind.u8 13)],[(C.int Go.IntKind.u8 10)]])) / 4))+192)*1)≤281474976710656)))&&(decide ((out+(List.length [[(C.int Go.IntKind.u8 13)],[(C.int Go.IntKind.u8 10)]]))≤9223372036854775807)))<|
 (gdE (EC.isL q9i ((EC.encL q9i b0)++[[(C.int Go.IntKind.u8 13)],[(C.int Go.IntKind.u8 10)]]))<|
 (q12s text (out+(List.length [[(C.int Go.IntKind.u8 13)],[(C.int Go.IntKind.u8 10)]])) (IntKind.wrap .i64 (i+1)) (EC.decL q9i ((EC.encL q9i b0)++[[(C.int Go.IntKind.u8 13)],[(C.int Go.IntKind.u8 10)]])))))))))
 (gdE ((decide (0≤i))&&(decide ((Int.toNat i)<text.size)))<|
 (brE (((((UInt8.toNat (Array.getD text.data (Int.toNat i) (0:UInt8))):Nat):Int)==13)==true)
 (brE ((decide ((IntKind.wrap .i64 (i+1))<(text.size:Int)))==true)
 (gdE ((decide (0≤(IntKind.wrap .i64 (i+1))))&&(decide ((Int.toNat (IntKind.wrap .i64 (i+1)))<text.size)))<|
 (brE ((((UInt8.toNat (Array.getD text.data (Int.toNat (IntKind.wrap .i64 (i+1))) (0:UInt8))):Nat):Int)==10)
 (gdE ((((List.all [[(C.int Go.IntKind.u8 13)],[(C.int Go.IntKind.u8 10)]] (fun (el:(List C))=>((List.length el)==1)))&&(List.all (EC.encL q9i b0) (fun (el:(List C))=>((List.length el)==1))))&&(decide (((((out+(List.length [[(C.int Go.IntKind.u8 13)],[(C.int Go.IntKind.u8 10)]]))+((out+(List.length [[(C.int Go.IntKind.u8 13)],[(C.int Go.IntKind.u8 10)]])) / 4))+192)*1)≤281474976710656)))&&(decide ((out+(List.length [[(C.int Go.IntKind.u8 13)],[(C.int Go.IntKind.u8 10)]]))≤9223372036854775807)))<|
 (gdE (EC.isL q9i ((EC.encL q9i b0)++[[(C.int Go.IntKind.u8 13)],[(C.int Go.IntKind.u8 10)]]))<|
 (q12s text (out+(List.length [[(C.int Go.IntKind.u8 13)],[(C.int Go.IntKind.u8 10)]])) (IntKind.wrap .i64 ((IntKind.wrap .i64 (i+1))+1)) (EC.decL q9i ((EC.encL q9i b0)++[[(C.int Go.IntKind.u8 13)],[(C.int Go.IntKind.u8 10)]])))))
 (gdE ((((List.all [[(C.int Go.IntKind.u8 13)],[(C.int Go.IntKind.u8 10)]] (fun (el:(List C))=>((List.length el)==1)))&&(List.all (EC.encL q9i b0) (fun (el:(List C))=>((List.length el)==1))))&&(decide (((((out+(List.length [[(C.int Go.IntKind.u8 13)],[(C.int Go.IntKind.u8 10)]]))+((out+(List.length [[(C.int Go.IntKind.u8 13)],[(C.int Go.IntKind.u8 10)]])) / 4))+192)*1)≤281474976710656)))&&(decide ((out+(List.length [[(C.int Go.IntKind.u8 13)],[(C.int Go.IntKind.u8 10)]]))≤9223372036854775807)))<|
 (gdE (EC.isL q9i ((EC.encL q9i b0)++[[(C.int Go.IntKind.u8 13)],[(C.int Go.IntKind.u8 10)]]))<|
 (q12s text (out+(List.length [[(C.int Go.IntKind.u8 13)],[(C.int Go.IntKind.u8 10)]])) (IntKind.wrap .i64 (i+1)) (EC.decL q9i ((EC.encL q9i b0)++[[(C.int Go.IntKind.u8 13)],[(C.int Go.IntKind.u8 10)]])))))))
 (gdE ((((List.all [[(C.int Go.IntKind.u8 13)],[(C.int Go.IntKind.u8 10)]] (fun (el:(List C))=>((List.length el)==1)))&&(List.all (EC.encL q9i b0) (fun (el:(List C))=>((List.length el)==1))))&&(decide (((((out+(List.length [[(C.int Go.IntKind.u8 13)],[(C.int Go.IntKind.u8 10)]]))+((out+(List.length [[(C.int Go.IntKind.u8 13)],[(C.int Go.IntKind.u8 10)]])) / 4))+192)*1)≤281474976710656)))&&(decide ((out+(List.length [[(C.int Go.IntKind.u8 13)],[(C.int Go.IntKind.u8 10)]]))≤9223372036854775807)))<|
 (gdE (EC.isL q9i ((EC.encL q9i b0)++[[(C.int Go.IntKind.u8 13)],[(C.int Go.IntKind.u8 10)]]))<|
 (q12s text (out+(List.length [[(C.int Go.IntKind.u8 13)],[(C.int Go.IntKind.u8 10)]])) (IntKind.wrap .i64 (i+1)) (EC.decL q9i ((EC.encL q9i b0)++[[(C.int Go.IntKind.u8 13)],[(C.int Go.IntKind.u8 10)]]))))))
 (gdE ((((List.all [[(C.int Go.IntKind.u8 13)],[(C.int Go.IntKind.u8 10)]] (fun (el:(List C))=>((List.length el)==1)))&&(List.all (EC.encL q9i b0) (fun (el:(List C))=>((List.length el)==1))))&&(decide (((((out+(List.length [[(C.int Go.IntKind.u8 13)],[(C.int Go.IntKind.u8 10)]]))+((out+(List.length [[(C.int Go.IntKind.u8 13)],[(C.int Go.IntKind.u8 10)]])) / 4))+192)*1)≤281474976710656)))&&(decide ((out+(List.length [[(C.int Go.IntKind.u8 13)],[(C.int Go.IntKind.u8 10)]]))≤9223372036854775807)))<|
 (gdE (EC.isL q9i ((EC.encL q9i b0)++[[(C.int Go.IntKind.u8 13)],[(C.int Go.IntKind.u8 10)]]))<|
 (q12s text (out+(List.length [[(C.int Go.IntKind.u8 13)],[(C.int Go.IntKind.u8 10)]])) (IntKind.wrap .i64 (i+1)) (EC.decL q9i ((EC.encL q9i b0)++[[(C.int Go.IntKind.u8 13)],[(C.int Go.IntKind.u8 10)]])))))))))
 (gdE (EC.isL q9i (EC.encL q9i b0))<|
 (some ((text,(out,(i,false))),(EC.decL q9i (EC.encL q9i b0))))))
theorem q12u {text out i b0 r} (h:q12y text out i b0=some r):q12s text out i b0=some r :=
 qjp (es:=q16e) (hs:=[]) [] (by kernel_rfl) trivial trivial (by kernel_rfl) h
def q12t:=qk9 Tryz.prog lv X0 3 (qg9 (cdF Tryz.f48) 3) q12x q12v (fun x=>q12s x.1.1 x.1.2.1 x.1.2.2 x.2) (fun _ _ h=>qjo h)
def q12p:Cod (V×List B) (Nat×(List Int)):=(cPair (vRow 0) (qjn (bRow q9i)))
def q12z (text:ByteArray):Option (Nat×(List Int)):=fS Tryz.prog lv X0 48 q12o q12p text
def q130 (text:ByteArray):Option (Nat×(List Int)) :=
 ((q12s text 0 0 (EC.decL q9i [])).bind fun r0 =>
 (brE ((decide (((r0.1.2.1:Nat):Int)>0))==true)
 (gdE ((decide (0≤(IntKind.wrap .i64 (((r0.1.2.1:Nat):Int) - 1))))&&(decide ((IntKind.wrap .i64 (((r0.1.2.1:Nat):Int) - 1))<((r0.1.2.1:Nat):Int))))<|
 (gdE ((decide ((Int.toNat (IntKind.wrap .i64 (((r0.1.2.1:Nat):Int) - 1)))<(List.length (EC.encL q9i r0.2))))&&((List.length (List.getD (EC.encL q9i r0.2) (Int.toNat (IntKind.wrap .i64 (((r0.1.2.1:Nat):Int) - 1))) []))==1))<|
 (gdE (isP [(K1.int Go.IntKind.u8)] 0 (List.getD (EC.encL q9i r0.2) (Int.toNat (IntKind.wrap .i64 (((r0.1.2.1:Nat):Int) - 1))) []))<|
 (brE ((qiy (List.getD (List.getD (EC.encL q9i r0.2) (Int.toNat (IntKind.wrap .i64 (((r0.1.2.1:Nat):Int) - 1))) []) 0 C.ne)) != 10)
 (gdE ((((List.all [[(C.int Go.IntKind.u8 13)],[(C.int Go.IntKind.u8 10)]] (fun (el:(List C))=>((List.length el)==1)))&&(List.all (EC.encL q9i r0.2) (fun (el:(List C))=>((List.length el)==1))))&&(decide (((((r0.1.2.1+(List.length [[(C.int Go.IntKind.u8 13)],[(C.int Go.IntKind.u8 10)]]))+((r0.1.2.1+(List.length [[(C.int Go.IntKind.u8 13)],[(C.int Go.IntKind.u8 10)]])) / 4))+192)*1)≤281474976710656)))&&(decide ((r0.1.2.1+(List.length [[(C.int Go.IntKind.u8 13)],[(C.int Go.IntKind.u8 10)]]))≤9223372036854775807)))<|
 (gdE (EC.isL q9i ((EC.encL q9i r0.2)++[[(C.int Go.IntKind.u8 13)],[(C.int Go.IntKind.u8 10)]]))<|
 (some ((r0.1.2.1+(List.length [[(C.int Go.IntKind.u8 13)],[(C.int Go.IntKind.u8 10)]])),(EC.decL q9i ((EC.encL q9i r0.2)++[[(C.int Go.IntKind.u8 13)],[(C.int Go.IntKind.u8 10)]]))))))
 (gdE (EC.isL q9i (EC.encL q9i r0.2))<|
 (some (r0.1.2.1,(EC.decL q9i (EC.encL q9i r0.2)))))))))
 (gdE (EC.isL q9i (EC.encL q9i r0.2))<|
 (some (r0.1.2.1,(EC.decL q9i (EC.encL q9i r0.2)))))))
theorem q12r {text r} (h:q130 text=some r):q12z text=some r :=
 qc8 (es:=q16e) (hs:=[]) [q12t] Tryz.func48 rfl (by kernel_rfl) rfl (by kernel_rfl) (by kernel_rfl) ⟨⟨_,rfl,rfl⟩,trivial⟩ trivial (by kernel_rfl) h
def q12q:=entS Tryz.prog lv X0 48 [] q12o q12p (fun x=>q12z x) (fun _ _ h=>qc7 h)
def q16g:=q12q::q16e
def q154:=(qjl (vAgg (qjl (vC (cSl q9j)) (qjn (vC (cSl q9i))))) (qjn (vC cStr)))
def q155:Cod (V×List B) ByteArray:=(cFstU (cPair (vC cStr) qjm))
def q158 (m_Fields:(List S57)) (m_Body:(List Int)) (name:ByteArray):Option ByteArray:=fS Tryz.prog lv X0 47 q154 q155 ((m_Fields,m_Body),name)
def q159 (m_Fields:(List S57)) (m_Body:(List Int)) (name:ByteArray):Option ByteArray :=
 (gdE (EC.isL q9j (EC.encL q9j m_Fields))<|
 (gdE (EC.isL q9i (EC.encL q9i m_Body))<|
 ((q118 (EC.decL q9j (EC.encL q9j m_Fields)) (EC.decL q9i (EC.encL q9i m_Body)) name).bind fun r0 =>
 (brE (((r0.1:Nat):Int)==0)
 (some ⟨#[]⟩)
 (gdE ((decide ((0:Int)≤0))&&(decide (0<((r0.1:Nat):Int))))<|
 (gdE ((decide ((Int.toNat 0)<(List.length (EC.encL q9l r0.2))))&&((List.length (List.getD (EC.encL q9l r0.2) (Int.toNat 0) []))==1))<|
 (gdE (isP [K1.str] 0 (List.getD (EC.encL q9l r0.2) (Int.toNat 0) []))<|
 (some (qrk (List.getD (List.getD (EC.encL q9l r0.2) (Int.toNat 0) []) 0 C.ne))))))))))
theorem q157 {m_Fields m_Body name r} (h:q159 m_Fields m_Body name=some r):q158 m_Fields m_Body name=some r :=
 qc8 (es:=q16g) (hs:=[]) [] Tryz.func47 rfl (by kernel_rfl) rfl (by kernel_rfl) (by kernel_rfl) trivial trivial (by kernel_rfl) h
def q156:=entS Tryz.prog lv X0 47 [] q154 q155 (fun x=>q158 x.1.1 x.1.2 x.2) (fun _ _ h=>qc7 h)
def q16n:=q156::q16g
def q146:=(qjl (vAgg (qjl (vC cStr) (qjl (vC (cSl q9k)) (qjl (vC cStr) (qjl (vC (cSl q9j)) (qjn (vC (cSl q9i)))))))) (qjl (vC cStr) (qjn (vC cStr))))
def q147:Cod (V×List B) ((ByteArray×Nat×ByteArray×Nat×Nat)×((List S81)×(List S57)×(List Int))):=(cPair (vAgg (qjl (vC cStr) (qjl (vRow 0) (qjl (vC cStr) (qjl (vRow 1) (qjn (vRow 2))))))) (qjl (bRow q9k) (qjl (bRow q9j) (qjn (bRow q9i)))))
def q14a (m_Envelope_From:ByteArray) (m_Envelope_To:(List S81)) (m_Envelope_Id:ByteArray) (m_Message_Fields:(List S57)) (m_Message_Body:(List Int)) (me:ByteArray) (text:ByteArray):Option ((ByteArray×Nat×ByteArray×Nat×Nat)×((List S81)×(List S57)×(List Int))):=fS Tryz.prog lv X0 17 q146 q147 ((m_Envelope_From,m_Envelope_To,m_Envelope_Id,m_Message_Fields,m_Message_Body),me,text)
def q14b (m_Envelope_From:ByteArray) (m_Envelope_To:(List S81)) (m_Envelope_Id:ByteArray) (m_Message_Fields:(List S57)) (m_Message_Body:(List Int)) (me:ByteArray) (text:ByteArray):Option ((ByteArray×Nat×ByteArray×Nat×Nat)×((List S81)×(List S57)×(List Int))) :=
 (gdE (EC.isL q9j (EC.encL q9j m_Message_Fields))<|
 (gdE (EC.isL q9i (EC.encL q9i m_Message_Body))<|
 ((q158 (EC.decL q9j (EC.encL q9j m_Message_Fields)) (EC.decL q9i (EC.encL q9i m_Message_Body)) (ByteArray.mk (List.toArray [(115:UInt8),(117:UInt8),(98:UInt8),(106:UInt8),(101:UInt8),(99:UInt8),(116:UInt8)]))).bind fun r0 =>
 (brE (!(r0.toList==(ByteArray.toList ⟨#[]⟩)))
 (brE (decide (((((ByteArray.size (ByteArray.mk (List.toArray [(32:UInt8)])))+r0.size):Nat):Int)>(Go.IntKind.max Go.IntKind.i64)))
 none
 (brE (decide (((((ByteArray.size (ByteArray.mk (List.toArray [(82:UInt8),(101:UInt8),(58:UInt8)])))+(ByteArray.size ((ByteArray.mk (List.toArray [(32:UInt8)]))++r0))):Nat):Int)>(Go.IntKind.max Go.IntKind.i64)))
 none
 (brE (decide (((((ByteArray.size (ByteArray.mk (List.toArray [(60:UInt8)])))+me.size):Nat):Int)>(Go.IntKind.max Go.IntKind.i64)))
 none
 (brE (decide (((((ByteArray.size ((ByteArray.mk (List.toArray [(60:UInt8)]))++me))+(ByteArray.size (ByteArray.mk (List.toArray [(62:UInt8)])))):Nat):Int)>(Go.IntKind.max Go.IntKind.i64)))
 none
 (brE (decide (((((ByteArray.size (ByteArray.mk (List.toArray [(60:UInt8)])))+m_Envelope_From.size):Nat):Int)>(Go.IntKind.max Go.IntKind.i64)))
 none
 (brE (decide (((((ByteArray.size ((ByteArray.mk (List.toArray [(60:UInt8)]))++m_Envelope_From))+(ByteArray.size (ByteArray.mk (List.toArray [(62:UInt8)])))):Nat):Int)>(Go.IntKind.max Go.IntKind.i64)))
 none
 (gdE (EC.isL q9j (EC.encL q9j m_Message_Fields))<|
 (gdE (EC.isL q9i (EC.encL q9i m_Message_Body))<|
 ((q158 (EC.decL q9j (EC.encL q9j m_Message_Fields)) (EC.decL q9i (EC.encL q9i m_Message_Body)) (ByteArray.mk (List.toArray [(109:UInt8),(101:UInt8),(115:UInt8),(115:UInt8),(97:UInt8),(103:UInt8),(101:UInt8),(45:UInt8),(105:UInt8),(100:UInt8)]))).bind fun r1 =>
 (brE (!(r1.toList==(ByteArray.toList ⟨#[]⟩)))
 (brE (decide (((((ByteArray.size (ByteArray.mk (List.toArray [(114:UInt8),(101:UInt8),(112:UInt8),(108:UInt8),(121:UInt8),(46:UInt8)])))+m_Envelope_Id.size):Nat):Int)>(Go.IntKind.max Go.IntKind.i64)))
 none
 ((q12z text).bind fun r2 =>
 (gdE (EC.isL q9i (EC.encL q9i r2.2))<|
 (some ((⟨#[]⟩,(1,(((ByteArray.mk (List.toArray [(114:UInt8),(101:UInt8),(112:UInt8),(108:UInt8),(121:UInt8),(46:UInt8)]))++m_Envelope_Id),(((3+(List.length [[(C.str (ByteArray.mk (List.toArray [(73:UInt8),(110:UInt8),(45:UInt8),(82:UInt8),(101:UInt8),(112:UInt8),(108:UInt8),(121:UInt8),(45:UInt8),(84:UInt8),(111:UInt8)]))),(C.str r1)]]))+(List.length [[(C.str (ByteArray.mk (List.toArray [(65:UInt8),(117:UInt8),(116:UInt8),(111:UInt8),(45:UInt8),(83:UInt8),(117:UInt8),(98:UInt8),(109:UInt8),(105:UInt8),(116:UInt8),(116:UInt8),(101:UInt8),(100:UInt8)]))),(C.str (ByteArray.mk (List.toArray [(97:UInt8),(117:UInt8),(116:UInt8),(111:UInt8),(45:UInt8),(114:UInt8),(101:UInt8),(112:UInt8),(108:UInt8),(105:UInt8),(101:UInt8),(100:UInt8)])))]])),r2.1)))),((EC.decL q9k [[(C.str m_Envelope_From),(C.int Go.IntKind.i64 0)]]),((EC.decL q9j (([[(C.str (ByteArray.mk (List.toArray [(70:UInt8),(114:UInt8),(111:UInt8),(109:UInt8)]))),(C.str (((ByteArray.mk (List.toArray [(60:UInt8)]))++me)++(ByteArray.mk (List.toArray [(62:UInt8)]))))],[(C.str (ByteArray.mk (List.toArray [(84:UInt8),(111:UInt8)]))),(C.str (((ByteArray.mk (List.toArray [(60:UInt8)]))++m_Envelope_From)++(ByteArray.mk (List.toArray [(62:UInt8)]))))],[(C.str (ByteArray.mk (List.toArray [(83:UInt8),(117:UInt8),(98:UInt8),(106:UInt8),(101:UInt8),(99:UInt8),(116:UInt8)]))),(C.str ((ByteArray.mk (List.toArray [(82:UInt8),(101:UInt8),(58:UInt8)]))++((ByteArray.mk (List.toArray [(32:UInt8)]))++r0)))]]++[[(C.str (ByteArray.mk (List.toArray [(73:UInt8),(110:UInt8),(45:UInt8),(82:UInt8),(101:UInt8),(112:UInt8),(108:UInt8),(121:UInt8),(45:UInt8),(84:UInt8),(111:UInt8)]))),(C.str r1)]])++[[(C.str (ByteArray.mk (List.toArray [(65:UInt8),(117:UInt8),(116:UInt8),(111:UInt8),(45:UInt8),(83:UInt8),(117:UInt8),(98:UInt8),(109:UInt8),(105:UInt8),(116:UInt8),(116:UInt8),(101:UInt8),(100:UInt8)]))),(C.str (ByteArray.mk (List.toArray [(97:UInt8),(117:UInt8),(116:UInt8),(111:UInt8),(45:UInt8),(114:UInt8),(101:UInt8),(112:UInt8),(108:UInt8),(105:UInt8),(101:UInt8),(100:UInt8)])))]])),(EC.decL q9i (EC.encL q9i r2.2)))))))))
 (brE (decide (((((ByteArray.size (ByteArray.mk (List.toArray [(114:UInt8),(101:UInt8),(112:UInt8),(108:UInt8),(121:UInt8),(46:UInt8)])))+m_Envelope_Id.size):Nat):Int)>(Go.IntKind.max Go.IntKind.i64)))
 none
 ((q12z text).bind fun r2 =>
 (gdE (EC.isL q9i (EC.encL q9i r2.2))<|
 (some ((⟨#[]⟩,(1,(((ByteArray.mk (List.toArray [(114:UInt8),(101:UInt8),(112:UInt8),(108:UInt8),(121:UInt8),(46:UInt8)]))++m_Envelope_Id),(4,r2.1)))),((EC.decL q9k [[(C.str m_Envelope_From),(C.int Go.IntKind.i64 0)]]),((EC.decL q9j ([[(C.str (ByteArray.mk (List.toArray [(70:UInt8),(114:UInt8),(111:UInt8),(109:UInt8)]))),(C.str (((ByteArray.mk (List.toArray [(60:UInt8)]))++me)++(ByteArray.mk (List.toArray [(62:UInt8)]))))],[(C.str (ByteArray.mk (List.toArray [(84:UInt8),(111:UInt8)]))),(C.str (((ByteArray.mk (List.toArray [(60:UInt8)]))++m_Envelope_From)++(ByteArray.mk (List.toArray [(62:UInt8)]))))],[(C.str (ByteArray.mk (List.toArray [(83:UInt8),(117:UInt8),(98:UInt8),(106:UInt8),(101:UInt8),(99:UInt8),(116:UInt8)]))),(C.str ((ByteArray.mk (List.toArray [(82:UInt8),(101:UInt8),(58:UInt8)]))++((ByteArray.mk (List.toArray [(32:UInt8)]))++r0)))]]++[[(C.str (ByteArray.mk (List.toArray [(65:UInt8),(117:UInt8),(116:UInt8),(111:UInt8),(45:UInt8),(83:UInt8),(117:UInt8),(98:UInt8),(109:UInt8),(105:UInt8),(116:UInt8),(116:UInt8),(101:UInt8),(100:UInt8)]))),(C.str (ByteArray.mk (List.toArray [(97:UInt8),(117:UInt8),(116:UInt8),(111:UInt8),(45:UInt8),(114:UInt8),(101:UInt8),(112:UInt8),(108:UInt8),(105:UInt8),(101:UInt8),(100:UInt8)])))]])),(EC.decL q9i (EC.encL q9i r2.2)))))))))))))))))))
 (brE (decide (((((ByteArray.size (ByteArray.mk (List.toArray [(60:UInt8)])))+me.size):Nat):Int)>(Go.IntKind.max Go.IntKind.i64)))
 none
 (brE (decide (((((ByteArray.size ((ByteArray.mk (List.toArray [(60:UInt8)]))++me))+(ByteArray.size (ByteArray.mk (List.toArray [(62:UInt8)])))):Nat):Int)>(Go.IntKind.max Go.IntKind.i64)))
 none
 (brE (decide (((((ByteArray.size (ByteArray.mk (List.toArray [(60:UInt8)])))+m_Envelope_From.size):Nat):Int)>(Go.IntKind.max Go.IntKind.i64)))
 none
 (brE (decide (((((ByteArray.size ((ByteArray.mk (List.toArray [(60:UInt8)]))++m_Envelope_From))+(ByteArray.size (ByteArray.mk (List.toArray [(62:UInt8)])))):Nat):Int)>(Go.IntKind.max Go.IntKind.i64)))
 none
 (gdE (EC.isL q9j (EC.encL q9j m_Message_Fields))<|
 (gdE (EC.isL q9i (EC.encL q9i m_Message_Body))<|
 ((q158 (EC.decL q9j (EC.encL q9j m_Message_Fields)) (EC.decL q9i (EC.encL q9i m_Message_Body)) (ByteArray.mk (List.toArray [(109:UInt8),(101:UInt8),(115:UInt8),(115:UInt8),(97:UInt8),(103:UInt8),(101:UInt8),(45:UInt8),(105:UInt8),(100:UInt8)]))).bind fun r1 =>
 (brE (!(r1.toList==(ByteArray.toList ⟨#[]⟩)))
 (brE (decide (((((ByteArray.size (ByteArray.mk (List.toArray [(114:UInt8),(101:UInt8),(112:UInt8),(108:UInt8),(121:UInt8),(46:UInt8)])))+m_Envelope_Id.size):Nat):Int)>(Go.IntKind.max Go.IntKind.i64)))
 none
 ((q12z text).bind fun r2 =>
 (gdE (EC.isL q9i (EC.encL q9i r2.2))<|
 (some ((⟨#[]⟩,(1,(((ByteArray.mk (List.toArray [(114:UInt8),(101:UInt8),(112:UInt8),(108:UInt8),(121:UInt8),(46:UInt8)]))++m_Envelope_Id),(((3+(List.length [[(C.str (ByteArray.mk (List.toArray [(73:UInt8),(110:UInt8),(45:UInt8),(82:UInt8),(101:UInt8),(112:UInt8),(108:UInt8),(121:UInt8),(45:UInt8),(84:UInt8),(111:UInt8)]))),(C.str r1)]]))+(List.length [[(C.str (ByteArray.mk (List.toArray [(65:UInt8),(117:UInt8),(116:UInt8),(111:UInt8),(45:UInt8),(83:UInt8),(117:UInt8),(98:UInt8),(109:UInt8),(105:UInt8),(116:UInt8),(116:UInt8),(101:UInt8),(100:UInt8)]))),(C.str (ByteArray.mk (List.toArray [(97:UInt8),(117:UInt8),(116:UInt8),(111:UInt8),(45:UInt8),(114:UInt8),(101:UInt8),(112:UInt8),(108:UInt8),(105:UInt8),(101:UInt8),(100:UInt8)])))]])),r2.1)))),((EC.decL q9k [[(C.str m_Envelope_From),(C.int Go.IntKind.i64 0)]]),((EC.decL q9j (([[(C.str (ByteArray.mk (List.toArray [(70:UInt8),(114:UInt8),(111:UInt8),(109:UInt8)]))),(C.str (((ByteArray.mk (List.toArray [(60:UInt8)]))++me)++(ByteArray.mk (List.toArray [(62:UInt8)]))))],[(C.str (ByteArray.mk (List.toArray [(84:UInt8),(111:UInt8)]))),(C.str (((ByteArray.mk (List.toArray [(60:UInt8)]))++m_Envelope_From)++(ByteArray.mk (List.toArray [(62:UInt8)]))))],[(C.str (ByteArray.mk (List.toArray [(83:UInt8),(117:UInt8),(98:UInt8),(106:UInt8),(101:UInt8),(99:UInt8),(116:UInt8)]))),(C.str (ByteArray.mk (List.toArray [(82:UInt8),(101:UInt8),(58:UInt8)])))]]++[[(C.str (ByteArray.mk (List.toArray [(73:UInt8),(110:UInt8),(45:UInt8),(82:UInt8),(101:UInt8),(112:UInt8),(108:UInt8),(121:UInt8),(45:UInt8),(84:UInt8),(111:UInt8)]))),(C.str r1)]])++[[(C.str (ByteArray.mk (List.toArray [(65:UInt8),(117:UInt8),(116:UInt8),(111:UInt8),(45:UInt8),(83:UInt8),(117:UInt8),(98:UInt8),(109:UInt8),(105:UInt8),(116:UInt8),(116:UInt8),(101:UInt8),(100:UInt8)]))),(C.str (ByteArray.mk (List.toArray [(97:UInt8),(117:UInt8),(116:UInt8),(111:UInt8),(45:UInt8),(114:UInt8),(101:UInt8),(112:UInt8),(108:UInt8),(105:UInt8),(101:UInt8),(100:UInt8)])))]])),(EC.decL q9i (EC.encL q9i r2.2)))))))))
 (brE (decide (((((ByteArray.size (ByteArray.mk (List.toArray [(114:UInt8),(101:UInt8),(112:UInt8),(108:UInt8),(121:UInt8),(46:UInt8)])))+m_Envelope_Id.size):Nat):Int)>(Go.IntKind.max Go.IntKind.i64)))
 none
 ((q12z text).bind fun r2 =>
 (gdE (EC.isL q9i (EC.encL q9i r2.2))<|
 (some ((⟨#[]⟩,(1,(((ByteArray.mk (List.toArray [(114:UInt8),(101:UInt8),(112:UInt8),(108:UInt8),(121:UInt8),(46:UInt8)]))++m_Envelope_Id),(4,r2.1)))),((EC.decL q9k [[(C.str m_Envelope_From),(C.int Go.IntKind.i64 0)]]),((EC.decL q9j ([[(C.str (ByteArray.mk (List.toArray [(70:UInt8),(114:UInt8),(111:UInt8),(109:UInt8)]))),(C.str (((ByteArray.mk (List.toArray [(60:UInt8)]))++me)++(ByteArray.mk (List.toArray [(62:UInt8)]))))],[(C.str (ByteArray.mk (List.toArray [(84:UInt8),(111:UInt8)]))),(C.str (((ByteArray.mk (List.toArray [(60:UInt8)]))++m_Envelope_From)++(ByteArray.mk (List.toArray [(62:UInt8)]))))],[(C.str (ByteArray.mk (List.toArray [(83:UInt8),(117:UInt8),(98:UInt8),(106:UInt8),(101:UInt8),(99:UInt8),(116:UInt8)]))),(C.str (ByteArray.mk (List.toArray [(82:UInt8),(101:UInt8),(58:UInt8)])))]]++[[(C.str (ByteArray.mk (List.toArray [(65:UInt8),(117:UInt8),(116:UInt8),(111:UInt8),(45:UInt8),(83:UInt8),(117:UInt8),(98:UInt8),(109:UInt8),(105:UInt8),(116:UInt8),(116:UInt8),(101:UInt8),(100:UInt8)]))),(C.str (ByteArray.mk (List.toArray [(97:UInt8),(117:UInt8),(116:UInt8),(111:UInt8),(45:UInt8),(114:UInt8),(101:UInt8),(112:UInt8),(108:UInt8),(105:UInt8),(101:UInt8),(100:UInt8)])))]])),(EC.decL q9i (EC.encL q9i r2.2)))))))))))))))))))))
theorem q149 {m_Envelope_From m_Envelope_To m_Envelope_Id m_Message_Fields m_Message_Body me text r} (h:q14b m_Envelope_From m_Envelope_To m_Envelope_Id m_Message_Fields m_Message_Body me text=some r):q14a m_Envelope_From m_Envelope_To m_Envelope_Id m_Message_Fields m_Message_Body me text=some r :=
 qc8 (es:=q16n) (hs:=[]) [] Tryz.func17 rfl (by kernel_rfl) rfl (by kernel_rfl) (by kernel_rfl) trivial trivial (by kernel_rfl) h
def q148:=entS Tryz.prog lv X0 17 [] q146 q147 (fun x=>q14a x.1.1 x.1.2.1 x.1.2.2.1 x.1.2.2.2.1 x.1.2.2.2.2 x.2.1 x.2.2) (fun _ _ h=>qc7 h)
def q16k:=q148::q16n
def q131:=(qjl (vC (cSl q9h)) (qjn (vC cStr)))
def q13b:=sLS [0,1,5] (qjl (vC (cSl q9h)) (qjl (vC cStr) (qjn (vC (cInt .i64))))) qjm [] [] (by decide) (fun _=>rfl)
def q13a:=sLS [0,1,5,9] (qjl (vC (cSl q9h)) (qjl (vC cStr) (qjl (vC (cInt .i64)) (qjn (vC cBool))))) qjm [] [] (by decide) (fun _=>rfl)
def q139:=sLS [4] (qjn (vC (cInt .i64))) qjm [] [] (by decide) (fun _=>rfl)
def q138:=oOr 1 q139 (oAt 2 q13a) (fun x=>(by decide:(2:Nat)≠1))
def q135 (r_:(List S44)) (sender:ByteArray) (i:Int):Option ((Int×Unit)⊕(((List S44)×ByteArray×Int×Bool)×Unit)):=lS Tryz.prog lv X0 15 20 (qg9 (cdF Tryz.f15) 2) q13b q138 ((r_,sender,i),())
def q13c (r_:(List S44)) (sender:ByteArray) (i:Int):Option ((Int×Unit)⊕(((List S44)×ByteArray×Int×Bool)×Unit)) :=
 (brE (decide (i<(List.length (EC.encL q9h r_):Int)))
 (gdE (decide (0≤i))<|
 (gdE ((decide ((Int.toNat i)<(List.length (EC.encL q9h r_))))&&(isE [K1.str,(K1.int Go.IntKind.i64)] 0 (List.getD (EC.encL q9h r_) (Int.toNat i) [])))<|
 (brE ((ByteArray.toList (qrk (List.getD (List.getD (EC.encL q9h r_) (Int.toNat i) []) 0 C.ne)))==sender.toList)
 (some (.inl (i,())))
 (gdE (EC.isL q9h (EC.encL q9h r_))<|
 (q135 (EC.decL q9h (EC.encL q9h r_)) sender (IntKind.wrap .i64 (i+1)))))))
 (gdE (EC.isL q9h (EC.encL q9h r_))<|
 (some (.inr (((EC.decL q9h (EC.encL q9h r_)),(sender,(i,false))),())))))
theorem q137 {r_ sender i r} (h:q13c r_ sender i=some r):q135 r_ sender i=some r :=
 qjp (es:=q16k) (hs:=[]) [] (by kernel_rfl) trivial trivial (by kernel_rfl) h
def q136:=qk9 Tryz.prog lv X0 2 (qg9 (cdF Tryz.f15) 2) q13b q138 (fun x=>q135 x.1.1 x.1.2.1 x.1.2.2) (fun _ _ h=>qjo h)
def q132:Cod (V×List B) Int:=(cFstU (cPair (vC (cInt .i64)) qjm))
def q13d (r_:(List S44)) (sender:ByteArray):Option Int:=fS Tryz.prog lv X0 15 q131 q132 (r_,sender)
def q13e (r_:(List S44)) (sender:ByteArray):Option Int :=
 (gdE (EC.isL q9h (EC.encL q9h r_))<|
 ((q135 (EC.decL q9h (EC.encL q9h r_)) sender 0).bind fun r0 =>
 (Sum.elim (fun r1=>(some r1.1))
 (fun r1=>(some (-1:Int))) r0)))
theorem q134 {r_ sender r} (h:q13e r_ sender=some r):q13d r_ sender=some r :=
 qc8 (es:=q16k) (hs:=[]) [q136] Tryz.func15 rfl (by kernel_rfl) rfl (by kernel_rfl) (by kernel_rfl) ⟨⟨_,rfl,rfl⟩,trivial⟩ trivial (by kernel_rfl) h
def q133:=entS Tryz.prog lv X0 15 [] q131 q132 (fun x=>q13d x.1 x.2) (fun _ _ h=>qc7 h)
def q16h:=q133::q16k
def q12i:=(qjl (vC (cSl q9h)) (qjl (vAgg (qjl (vC cStr) (qjl (vC (cSl q9k)) (qjl (vC cStr) (qjl (vC (cSl q9j)) (qjn (vC (cSl q9i)))))))) (qjl (vC cStr) (qjn (vC (cInt .i64))))))
def q12j:Cod (V×List B) Bool:=(cFstU (cPair (vC cBool) qjm))
def q12m (r_:(List S44)) (m_Envelope_From:ByteArray) (m_Envelope_To:(List S81)) (m_Envelope_Id:ByteArray) (m_Message_Fields:(List S57)) (m_Message_Body:(List Int)) (me:ByteArray) (now:Int):Option Bool:=fS Tryz.prog lv X0 16 q12i q12j (r_,(m_Envelope_From,m_Envelope_To,m_Envelope_Id,m_Message_Fields,m_Message_Body),me,now)
def q12n (r_:(List S44)) (m_Envelope_From:ByteArray) (m_Envelope_To:(List S81)) (m_Envelope_Id:ByteArray) (m_Message_Fields:(List S57)) (m_Message_Body:(List Int)) (me:ByteArray) (now:Int):Option Bool :=
 (gdE (EC.isL q9h (EC.encL q9h r_))<|
 ((q13d (EC.decL q9h (EC.encL q9h r_)) m_Envelope_From).bind fun r0 =>
 (brE ((!(m_Envelope_From.toList==(ByteArray.toList ⟨#[]⟩)))==true)
 ((qza m_Envelope_From me).bind fun r1 =>
 (brE ((!r1)==true)
 (gdE (EC.isL q9j (EC.encL q9j m_Message_Fields))<|
 (gdE (EC.isL q9i (EC.encL q9i m_Message_Body))<|
 ((q12g (EC.decL q9j (EC.encL q9j m_Message_Fields)) (EC.decL q9i (EC.encL q9i m_Message_Body))).bind fun r2 =>
 (brE ((!r2)==true)
 (brE ((decide (r0<0))==false)
 (gdE (decide (0≤r0))<|
 (gdE ((decide ((Int.toNat r0)<(List.length (EC.encL q9h r_))))&&(isE [K1.str,(K1.int Go.IntKind.i64)] 0 (List.getD (EC.encL q9h r_) (Int.toNat r0) [])))<|
 (some (decide ((IntKind.wrap .i64 ((qiy (List.getD (List.getD (EC.encL q9h r_) (Int.toNat r0) []) 1 C.ne))+604800))≤now)))))
 (some true))
 (some false)))))
 (some false)))
 (some false))))
theorem q12l {r_ m_Envelope_From m_Envelope_To m_Envelope_Id m_Message_Fields m_Message_Body me now r} (h:q12n r_ m_Envelope_From m_Envelope_To m_Envelope_Id m_Message_Fields m_Message_Body me now=some r):q12m r_ m_Envelope_From m_Envelope_To m_Envelope_Id m_Message_Fields m_Message_Body me now=some r :=
 qc8 (es:=q16h) (hs:=[]) [] Tryz.func16 rfl (by kernel_rfl) rfl (by kernel_rfl) (by kernel_rfl) trivial trivial (by kernel_rfl) h
def q12k:=entS Tryz.prog lv X0 16 [] q12i q12j (fun x=>q12m x.1 x.2.1.1 x.2.1.2.1 x.2.1.2.2.1 x.2.1.2.2.2.1 x.2.1.2.2.2.2 x.2.2.1 x.2.2.2) (fun _ _ h=>qc7 h)
def q16f:=q12k::q16h
def q13t:=(qjl (vC (cSl q9h)) (qjl (vC cStr) (qjn (vC (cInt .i64)))))
def q142:=sLS [0,1,2,8,9,10,11] (qjl (vC (cSl q9h)) (qjl (vC cStr) (qjl (vC (cInt .i64)) (qjl (vC cBool) (qjl (vRow 0) (qjl (vC cBool) (qjn (vC (cInt .i64))))))))) (qjn (qmx (bRow q9h))) [false] [] (by decide) (fun _=>rfl)
def q141:=sLS [0,1,2,8,9,10,11,19] (qjl (vC (cSl q9h)) (qjl (vC cStr) (qjl (vC (cInt .i64)) (qjl (vC cBool) (qjl (vRow 0) (qjl (vC cBool) (qjl (vC (cInt .i64)) (qjn (vC cBool))))))))) (qjn (qmx (bRow q9h))) [false] [] (by decide) (fun _=>rfl)
def q140:=oAt 2 q141
def q13x (r_:(List S44)) (sender:ByteArray) (now:Int) (known:Bool) (out:Nat) (done:Bool) (i:Int) (b0:(List S44)):Option (((List S44)×ByteArray×Int×Bool×Nat×Bool×Int×Bool)×(List S44)):=lS Tryz.prog lv X0 18 78 (qg9 (cdF Tryz.f18) 5) q142 q140 ((r_,sender,now,known,out,done,i),b0)
def q143 (r_:(List S44)) (sender:ByteArray) (now:Int) (known:Bool) (out:Nat) (done:Bool) (i:Int) (b0:(List S44)):Option (((List S44)×ByteArray×Int×Bool×Nat×Bool×Int×Bool)×(List S44)) :=
 (brE (decide (i<(List.length (EC.encL q9h r_):Int)))
 (brE ((!done)==true)
 (gdE (decide (0≤i))<|
 (gdE ((decide ((Int.toNat i)<(List.length (EC.encL q9h r_))))&&(isE [K1.str,(K1.int Go.IntKind.i64)] 0 (List.getD (EC.encL q9h r_) (Int.toNat i) [])))<|
 (brE (!(Go.Op.bytesLess (ByteArray.toList (qrk (List.getD (List.getD (EC.encL q9h r_) (Int.toNat i) []) 0 C.ne))) sender.toList))
 (gdE ((((List.all [[(C.str sender),(C.int Go.IntKind.i64 now)]] (fun (el:(List C))=>((List.length el)==2)))&&(List.all (EC.encL q9h b0) (fun (el:(List C))=>((List.length el)==2))))&&(decide (((((out+(List.length [[(C.str sender),(C.int Go.IntKind.i64 now)]]))+((out+(List.length [[(C.str sender),(C.int Go.IntKind.i64 now)]])) / 4))+192)*24)≤281474976710656)))&&(decide ((out+(List.length [[(C.str sender),(C.int Go.IntKind.i64 now)]]))≤9223372036854775807)))<|
 (gdE (decide (0≤i))<|
 (gdE ((decide ((Int.toNat i)<(List.length (EC.encL q9h r_))))&&(isE [K1.str,(K1.int Go.IntKind.i64)] 0 (List.getD (EC.encL q9h r_) (Int.toNat i) [])))<|
 (brE ((!((ByteArray.toList (qrk (List.getD (List.getD (EC.encL q9h r_) (Int.toNat i) []) 0 C.ne)))==sender.toList))==true)
 (brE (known==false)
 (gdE (decide (0≤i))<|
 (gdE ((decide ((Int.toNat i)<(List.length (EC.encL q9h r_))))&&(isE [K1.str,(K1.int Go.IntKind.i64)] 0 (List.getD (EC.encL q9h r_) (Int.toNat i) [])))<|
 (brE (decide (now<(IntKind.wrap .i64 ((qiy (List.getD (List.getD (EC.encL q9h r_) (Int.toNat i) []) 1 C.ne))+604800))))
 (gdE (decide (0≤i))<|
 (gdE ((decide ((Int.toNat i)<(List.length (EC.encL q9h r_))))&&(isE [K1.str,(K1.int Go.IntKind.i64)] 0 (List.getD (EC.encL q9h r_) (Int.toNat i) [])))<|
 (gdE ((((List.all [[(C.str (qrk (List.getD (List.getD (EC.encL q9h r_) (Int.toNat i) []) 0 C.ne))),(C.int Go.IntKind.i64 (qiy (List.getD (List.getD (EC.encL q9h r_) (Int.toNat i) []) 1 C.ne)))]] (fun (el:(List C))=>((List.length el)==2)))&&(List.all ((EC.encL q9h b0)++[[(C.str sender),(C.int Go.IntKind.i64 now)]]) (fun (el:(List C))=>((List.length el)==2))))&&(decide ((((((out+(List.length [[(C.str sender),(C.int Go.IntKind.i64 now)]]))+(List.length [[(C.str (qrk (List.getD (List.getD (EC.encL q9h r_) (Int.toNat i) []) 0 C.ne))),(C.int Go.IntKind.i64 (qiy (List.getD (List.getD (EC.encL q9h r_) (Int.toNat i) []) 1 C.ne)))]]))+(((out+(List.length [[(C.str sender),(C.int Go.IntKind.i64 now)]]))+(List.length [[(C.str (qrk (List.getD (List.getD (EC.encL q9h r_) (Int.toNat i) []) 0 C.ne))),(C.int Go.IntKind.i64 (qiy (List.getD (List.getD (EC.encL q9h r_) (Int.toNat i) []) 1 C.ne)))]])) / 4))+192)*24)≤281474976710656)))&&(decide (((out+(List.length [[(C.str sender),(C.int Go.IntKind.i64 now)]]))+(List.length [[(C.str (qrk (List.getD (List.getD (EC.encL q9h r_) (Int.toNat i) []) 0 C.ne))),(C.int Go.IntKind.i64 (qiy (List.getD (List.getD (EC.encL q9h r_) (Int.toNat i) []) 1 C.ne)))]]))≤9223372036854775807)))<|
 (gdE (EC.isL q9h (EC.encL q9h r_))<|
 (gdE (EC.isL q9h (((EC.encL q9h b0)++[[(C.str sender),(C.int Go.IntKind.i64 now)]])++[[(C.str (qrk (List.getD (List.getD (EC.encL q9h r_) (Int.toNat i) []) 0 C.ne))),(C.int Go.IntKind.i64 (qiy (List.getD (List.getD (EC.encL q9h r_) (Int.toNat i) []) 1 C.ne)))]]))<|
 (q13x (EC.decL q9h (EC.encL q9h r_)) sender now known ((out+(List.length [[(C.str sender),(C.int Go.IntKind.i64 now)]]))+(List.length [[(C.str (qrk (List.getD (List.getD (EC.encL q9h r_) (Int.toNat i) []) 0 C.ne))),(C.int Go.IntKind.i64 (qiy (List.getD (List.getD (EC.encL q9h r_) (Int.toNat i) []) 1 C.ne)))]])) true (IntKind.wrap .i64 (i+1)) (EC.decL q9h (((EC.encL q9h b0)++[[(C.str sender),(C.int Go.IntKind.i64 now)]])++[[(C.str (qrk (List.getD (List.getD (EC.encL q9h r_) (Int.toNat i) []) 0 C.ne))),(C.int Go.IntKind.i64 (qiy (List.getD (List.getD (EC.encL q9h r_) (Int.toNat i) []) 1 C.ne)))]]))))))))
 (gdE (EC.isL q9h (EC.encL q9h r_))<|
 (gdE (EC.isL q9h ((EC.encL q9h b0)++[[(C.str sender),(C.int Go.IntKind.i64 now)]]))<|
 (q13x (EC.decL q9h (EC.encL q9h r_)) sender now known (out+(List.length [[(C.str sender),(C.int Go.IntKind.i64 now)]])) true (IntKind.wrap .i64 (i+1)) (EC.decL q9h ((EC.encL q9h b0)++[[(C.str sender),(C.int Go.IntKind.i64 now)]]))))))))
 (gdE (decide (0≤i))<|
 (gdE ((decide ((Int.toNat i)<(List.length (EC.encL q9h r_))))&&(isE [K1.str,(K1.int Go.IntKind.i64)] 0 (List.getD (EC.encL q9h r_) (Int.toNat i) [])))<|
 (gdE ((((List.all [[(C.str (qrk (List.getD (List.getD (EC.encL q9h r_) (Int.toNat i) []) 0 C.ne))),(C.int Go.IntKind.i64 (qiy (List.getD (List.getD (EC.encL q9h r_) (Int.toNat i) []) 1 C.ne)))]] (fun (el:(List C))=>((List.length el)==2)))&&(List.all ((EC.encL q9h b0)++[[(C.str sender),(C.int Go.IntKind.i64 now)]]) (fun (el:(List C))=>((List.length el)==2))))&&(decide ((((((out+(List.length [[(C.str sender),(C.int Go.IntKind.i64 now)]]))+(List.length [[(C.str (qrk (List.getD (List.getD (EC.encL q9h r_) (Int.toNat i) []) 0 C.ne))),(C.int Go.IntKind.i64 (qiy (List.getD (List.getD (EC.encL q9h r_) (Int.toNat i) []) 1 C.ne)))]]))+(((out+(List.length [[(C.str sender),(C.int Go.IntKind.i64 now)]]))+(List.length [[(C.str (qrk (List.getD (List.getD (EC.encL q9h r_) (Int.toNat i) []) 0 C.ne))),(C.int Go.IntKind.i64 (qiy (List.getD (List.getD (EC.encL q9h r_) (Int.toNat i) []) 1 C.ne)))]])) / 4))+192)*24)≤281474976710656)))&&(decide (((out+(List.length [[(C.str sender),(C.int Go.IntKind.i64 now)]]))+(List.length [[(C.str (qrk (List.getD (List.getD (EC.encL q9h r_) (Int.toNat i) []) 0 C.ne))),(C.int Go.IntKind.i64 (qiy (List.getD (List.getD (EC.encL q9h r_) (Int.toNat i) []) 1 C.ne)))]]))≤9223372036854775807)))<|
 (gdE (EC.isL q9h (EC.encL q9h r_))<|
 (gdE (EC.isL q9h (((EC.encL q9h b0)++[[(C.str sender),(C.int Go.IntKind.i64 now)]])++[[(C.str (qrk (List.getD (List.getD (EC.encL q9h r_) (Int.toNat i) []) 0 C.ne))),(C.int Go.IntKind.i64 (qiy (List.getD (List.getD (EC.encL q9h r_) (Int.toNat i) []) 1 C.ne)))]]))<|
 (q13x (EC.decL q9h (EC.encL q9h r_)) sender now known ((out+(List.length [[(C.str sender),(C.int Go.IntKind.i64 now)]]))+(List.length [[(C.str (qrk (List.getD (List.getD (EC.encL q9h r_) (Int.toNat i) []) 0 C.ne))),(C.int Go.IntKind.i64 (qiy (List.getD (List.getD (EC.encL q9h r_) (Int.toNat i) []) 1 C.ne)))]])) true (IntKind.wrap .i64 (i+1)) (EC.decL q9h (((EC.encL q9h b0)++[[(C.str sender),(C.int Go.IntKind.i64 now)]])++[[(C.str (qrk (List.getD (List.getD (EC.encL q9h r_) (Int.toNat i) []) 0 C.ne))),(C.int Go.IntKind.i64 (qiy (List.getD (List.getD (EC.encL q9h r_) (Int.toNat i) []) 1 C.ne)))]])))))))))
 (gdE (EC.isL q9h (EC.encL q9h r_))<|
 (gdE (EC.isL q9h ((EC.encL q9h b0)++[[(C.str sender),(C.int Go.IntKind.i64 now)]]))<|
 (q13x (EC.decL q9h (EC.encL q9h r_)) sender now known (out+(List.length [[(C.str sender),(C.int Go.IntKind.i64 now)]])) true (IntKind.wrap .i64 (i+1)) (EC.decL q9h ((EC.encL q9h b0)++[[(C.str sender),(C.int Go.IntKind.i64 now)]])))))))))
 (gdE (decide (0≤i))<|
 (gdE ((decide ((Int.toNat i)<(List.length (EC.encL q9h r_))))&&(isE [K1.str,(K1.int Go.IntKind.i64)] 0 (List.getD (EC.encL q9h r_) (Int.toNat i) [])))<|
 (brE ((!((ByteArray.toList (qrk (List.getD (List.getD (EC.encL q9h r_) (Int.toNat i) []) 0 C.ne)))==sender.toList))==true)
 (brE (known==false)
 (gdE (decide (0≤i))<|
 (gdE ((decide ((Int.toNat i)<(List.length (EC.encL q9h r_))))&&(isE [K1.str,(K1.int Go.IntKind.i64)] 0 (List.getD (EC.encL q9h r_) (Int.toNat i) [])))<|
 (brE (decide (now<(IntKind.wrap .i64 ((qiy (List.getD (List.getD (EC.encL q9h r_) (Int.toNat i) []) 1 C.ne))+604800))))
 (gdE (decide (0≤i))<|
 (gdE ((decide ((Int.toNat i)<(List.length (EC.encL q9h r_))))&&(isE [K1.str,(K1.int Go.IntKind.i64)] 0 (List.getD (EC.encL q9h r_) (Int.toNat i) [])))<|
 (gdE ((((List.all [[(C.str (qrk (List.getD (List.getD (EC.encL q9h r_) (Int.toNat i) []) 0 C.ne))),(C.int Go.IntKind.i64 (qiy (List.getD (List.getD (EC.encL q9h r_) (Int.toNat i) []) 1 C.ne)))]] (fun (el:(List C))=>((List.length el)==2)))&&(List.all (EC.encL q9h b0) (fun (el:(List C))=>((List.length el)==2))))&&(decide (((((out+(List.length [[(C.str (qrk (List.getD (List.getD (EC.encL q9h r_) (Int.toNat i) []) 0 C.ne))),(C.int Go.IntKind.i64 (qiy (List.getD (List.getD (EC.encL q9h r_) (Int.toNat i) []) 1 C.ne)))]]))+((out+(List.length [[(C.str (qrk (List.getD (List.getD (EC.encL q9h r_) (Int.toNat i) []) 0 C.ne))),(C.int Go.IntKind.i64 (qiy (List.getD (List.getD (EC.encL q9h r_) (Int.toNat i) []) 1 C.ne)))]])) / 4))+192)*24)≤281474976710656)))&&(decide ((out+(List.length [[(C.str (qrk (List.getD (List.getD (EC.encL q9h r_) (Int.toNat i) []) 0 C.ne))),(C.int Go.IntKind.i64 (qiy (List.getD (List.getD (EC.encL q9h r_) (Int.toNat i) []) 1 C.ne)))]]))≤9223372036854775807)))<|
 (gdE (EC.isL q9h (EC.encL q9h r_))<|
 (gdE (EC.isL q9h ((EC.encL q9h b0)++[[(C.str (qrk (List.getD (List.getD (EC.encL q9h r_) (Int.toNat i) []) 0 C.ne))),(C.int Go.IntKind.i64 (qiy (List.getD (List.getD (EC.encL q9h r_) (Int.toNat i) []) 1 C.ne)))]]))<|
 (q13x (EC.decL q9h (EC.encL q9h r_)) sender now known (out+(List.length [[(C.str (qrk (List.getD (List.getD (EC.encL q9h r_) (Int.toNat i) []) 0 C.ne))),(C.int Go.IntKind.i64 (qiy (List.getD (List.getD (EC.encL q9h r_) (Int.toNat i) []) 1 C.ne)))]])) done (IntKind.wrap .i64 (i+1)) (EC.decL q9h ((EC.encL q9h b0)++[[(C.str (qrk (List.getD (List.getD (EC.encL q9h r_) (Int.toNat i) []) 0 C.ne))),(C.int Go.IntKind.i64 (qiy (List.getD (List.getD (EC.encL q9h r_) (Int.toNat i) []) 1 C.ne)))]]))))))))
 (gdE (EC.isL q9h (EC.encL q9h r_))<|
 (gdE (EC.isL q9h (EC.encL q9h b0))<|
 (q13x (EC.decL q9h (EC.encL q9h r_)) sender now known out done (IntKind.wrap .i64 (i+1)) (EC.decL q9h (EC.encL q9h b0))))))))
 (gdE (decide (0≤i))<|
 (gdE ((decide ((Int.toNat i)<(List.length (EC.encL q9h r_))))&&(isE [K1.str,(K1.int Go.IntKind.i64)] 0 (List.getD (EC.encL q9h r_) (Int.toNat i) [])))<|
 (gdE ((((List.all [[(C.str (qrk (List.getD (List.getD (EC.encL q9h r_) (Int.toNat i) []) 0 C.ne))),(C.int Go.IntKind.i64 (qiy (List.getD (List.getD (EC.encL q9h r_) (Int.toNat i) []) 1 C.ne)))]] (fun (el:(List C))=>((List.length el)==2)))&&(List.all (EC.encL q9h b0) (fun (el:(List C))=>((List.length el)==2))))&&(decide (((((out+(List.length [[(C.str (qrk (List.getD (List.getD (EC.encL q9h r_) (Int.toNat i) []) 0 C.ne))),(C.int Go.IntKind.i64 (qiy (List.getD (List.getD (EC.encL q9h r_) (Int.toNat i) []) 1 C.ne)))]]))+((out+(List.length [[(C.str (qrk (List.getD (List.getD (EC.encL q9h r_) (Int.toNat i) []) 0 C.ne))),(C.int Go.IntKind.i64 (qiy (List.getD (List.getD (EC.encL q9h r_) (Int.toNat i) []) 1 C.ne)))]])) / 4))+192)*24)≤281474976710656)))&&(decide ((out+(List.length [[(C.str (qrk (List.getD (List.getD (EC.encL q9h r_) (Int.toNat i) []) 0 C.ne))),(C.int Go.IntKind.i64 (qiy (List.getD (List.getD (EC.encL q9h r_) (Int.toNat i) []) 1 C.ne)))]]))≤9223372036854775807)))<|
 (gdE (EC.isL q9h (EC.encL q9h r_))<|
 (gdE (EC.isL q9h ((EC.encL q9h b0)++[[(C.str (qrk (List.getD (List.getD (EC.encL q9h r_) (Int.toNat i) []) 0 C.ne))),(C.int Go.IntKind.i64 (qiy (List.getD (List.getD (EC.encL q9h r_) (Int.toNat i) []) 1 C.ne)))]]))<|
 (q13x (EC.decL q9h (EC.encL q9h r_)) sender now known (out+(List.length [[(C.str (qrk (List.getD (List.getD (EC.encL q9h r_) (Int.toNat i) []) 0 C.ne))),(C.int Go.IntKind.i64 (qiy (List.getD (List.getD (EC.encL q9h r_) (Int.toNat i) []) 1 C.ne)))]])) done (IntKind.wrap .i64 (i+1)) (EC.decL q9h ((EC.encL q9h b0)++[[(C.str (qrk (List.getD (List.getD (EC.encL q9h r_) (Int.toNat i) []) 0 C.ne))),(C.int Go.IntKind.i64 (qiy (List.getD (List.getD (EC.encL q9h r_) (Int.toNat i) []) 1 C.ne)))]])))))))))
 (gdE (EC.isL q9h (EC.encL q9h r_))<|
 (gdE (EC.isL q9h (EC.encL q9h b0))<|
 (q13x (EC.decL q9h (EC.encL q9h r_)) sender now known out done (IntKind.wrap .i64 (i+1)) (EC.decL q9h (EC.encL q9h b0)))))))))))
 (gdE (decide (0≤i))<|
 (gdE ((decide ((Int.toNat i)<(List.length (EC.encL q9h r_))))&&(isE [K1.str,(K1.int Go.IntKind.i64)] 0 (List.getD (EC.encL q9h r_) (Int.toNat i) [])))<|
 (brE ((!((ByteArray.toList (qrk (List.getD (List.getD (EC.encL q9h r_) (Int.toNat i) []) 0 C.ne)))==sender.toList))==true)
 (brE (known==false)
 (gdE (decide (0≤i))<|
 (gdE ((decide ((Int.toNat i)<(List.length (EC.encL q9h r_))))&&(isE [K1.str,(K1.int Go.IntKind.i64)] 0 (List.getD (EC.encL q9h r_) (Int.toNat i) [])))<|
 (brE (decide (now<(IntKind.wrap .i64 ((qiy (List.getD (List.getD (EC.encL q9h r_) (Int.toNat i) []) 1 C.ne))+604800))))
 (gdE (decide (0≤i))<|
 (gdE ((decide ((Int.toNat i)<(List.length (EC.encL q9h r_))))&&(isE [K1.str,(K1.int Go.IntKind.i64)] 0 (List.getD (EC.encL q9h r_) (Int.toNat i) [])))<|
 (gdE ((((List.all [[(C.str (qrk (List.getD (List.getD (EC.encL q9h r_) (Int.toNat i) []) 0 C.ne))),(C.int Go.IntKind.i64 (qiy (List.getD (List.getD (EC.encL q9h r_) (Int.toNat i) []) 1 C.ne)))]] (fun (el:(List C))=>((List.length el)==2)))&&(List.all (EC.encL q9h b0) (fun (el:(List C))=>((List.length el)==2))))&&(decide (((((out+(List.length [[(C.str (qrk (List.getD (List.getD (EC.encL q9h r_) (Int.toNat i) []) 0 C.ne))),(C.int Go.IntKind.i64 (qiy (List.getD (List.getD (EC.encL q9h r_) (Int.toNat i) []) 1 C.ne)))]]))+((out+(List.length [[(C.str (qrk (List.getD (List.getD (EC.encL q9h r_) (Int.toNat i) []) 0 C.ne))),(C.int Go.IntKind.i64 (qiy (List.getD (List.getD (EC.encL q9h r_) (Int.toNat i) []) 1 C.ne)))]])) / 4))+192)*24)≤281474976710656)))&&(decide ((out+(List.length [[(C.str (qrk (List.getD (List.getD (EC.encL q9h r_) (Int.toNat i) []) 0 C.ne))),(C.int Go.IntKind.i64 (qiy (List.getD (List.getD (EC.encL q9h r_) (Int.toNat i) []) 1 C.ne)))]]))≤9223372036854775807)))<|
 (gdE (EC.isL q9h (EC.encL q9h r_))<|
 (gdE (EC.isL q9h ((EC.encL q9h b0)++[[(C.str (qrk (List.getD (List.getD (EC.encL q9h r_) (Int.toNat i) []) 0 C.ne))),(C.int Go.IntKind.i64 (qiy (List.getD (List.getD (EC.encL q9h r_) (Int.toNat i) []) 1 C.ne)))]]))<|
 (q13x (EC.decL q9h (EC.encL q9h r_)) sender now known (out+(List.length [[(C.str (qrk (List.getD (List.getD (EC.encL q9h r_) (Int.toNat i) []) 0 C.ne))),(C.int Go.IntKind.i64 (qiy (List.getD (List.getD (EC.encL q9h r_) (Int.toNat i) []) 1 C.ne)))]])) done (IntKind.wrap .i64 (i+1)) (EC.decL q9h ((EC.encL q9h b0)++[[(C.str (qrk (List.getD (List.getD (EC.encL q9h r_) (Int.toNat i) []) 0 C.ne))),(C.int Go.IntKind.i64 (qiy (List.getD (List.getD (EC.encL q9h r_) (Int.toNat i) []) 1 C.ne)))]]))))))))
 (gdE (EC.isL q9h (EC.encL q9h r_))<|
 (gdE (EC.isL q9h (EC.encL q9h b0))<|
 (q13x (EC.decL q9h (EC.encL q9h r_)) sender now known out done (IntKind.wrap .i64 (i+1)) (EC.decL q9h (EC.encL q9h b0))))))))
 (gdE (decide (0≤i))<|
 (gdE ((decide ((Int.toNat i)<(List.length (EC.encL q9h r_))))&&(isE [K1.str,(K1.int Go.IntKind.i64)] 0 (List.getD (EC.encL q9h r_) (Int.toNat i) [])))<|
 (gdE ((((List.all [[(C.str (qrk (List.getD (List.getD (EC.encL q9h r_) (Int.toNat i) []) 0 C.ne))),(C.int Go.IntKind.i64 (qiy (List.getD (List.getD (EC.encL q9h r_) (Int.toNat i) []) 1 C.ne)))]] (fun (el:(List C))=>((List.length el)==2)))&&(List.all (EC.encL q9h b0) (fun (el:(List C))=>((List.length el)==2))))&&(decide (((((out+(List.length [[(C.str (qrk (List.getD (List.getD (EC.encL q9h r_) (Int.toNat i) []) 0 C.ne))),(C.int Go.IntKind.i64 (qiy (List.getD (List.getD (EC.encL q9h r_) (Int.toNat i) []) 1 C.ne)))]]))+((out+(List.length [[(C.str (qrk (List.getD (List.getD (EC.encL q9h r_) (Int.toNat i) []) 0 C.ne))),(C.int Go.IntKind.i64 (qiy (List.getD (List.getD (EC.encL q9h r_) (Int.toNat i) []) 1 C.ne)))]])) / 4))+192)*24)≤281474976710656)))&&(decide ((out+(List.length [[(C.str (qrk (List.getD (List.getD (EC.encL q9h r_) (Int.toNat i) []) 0 C.ne))),(C.int Go.IntKind.i64 (qiy (List.getD (List.getD (EC.encL q9h r_) (Int.toNat i) []) 1 C.ne)))]]))≤9223372036854775807)))<|
 (gdE (EC.isL q9h (EC.encL q9h r_))<|
 (gdE (EC.isL q9h ((EC.encL q9h b0)++[[(C.str (qrk (List.getD (List.getD (EC.encL q9h r_) (Int.toNat i) []) 0 C.ne))),(C.int Go.IntKind.i64 (qiy (List.getD (List.getD (EC.encL q9h r_) (Int.toNat i) []) 1 C.ne)))]]))<|
 (q13x (EC.decL q9h (EC.encL q9h r_)) sender now known (out+(List.length [[(C.str (qrk (List.getD (List.getD (EC.encL q9h r_) (Int.toNat i) []) 0 C.ne))),(C.int Go.IntKind.i64 (qiy (List.getD (List.getD (EC.encL q9h r_) (Int.toNat i) []) 1 C.ne)))]])) done (IntKind.wrap .i64 (i+1)) (EC.decL q9h ((EC.encL q9h b0)++[[(C.str (qrk (List.getD (List.getD (EC.encL q9h r_) (Int.toNat i) []) 0 C.ne))),(C.int Go.IntKind.i64 (qiy (List.getD (List.getD (EC.encL q9h r_) (Int.toNat i) []) 1 C.ne)))]])))))))))
 (gdE (EC.isL q9h (EC.encL q9h r_))<|
 (gdE (EC.isL q9h (EC.encL q9h b0))<|
 (q13x (EC.decL q9h (EC.encL q9h r_)) sender now known out done (IntKind.wrap .i64 (i+1)) (EC.decL q9h (EC.encL q9h b0)))))))))
 (gdE (EC.isL q9h (EC.encL q9h r_))<|
 (gdE (EC.isL q9h (EC.encL q9h b0))<|
 (some (((EC.decL q9h (EC.encL q9h r_)),(sender,(now,(known,(out,(done,(i,false))))))),(EC.decL q9h (EC.encL q9h b0)))))))
theorem q13z {r_ sender now known out done i b0 r} (h:q143 r_ sender now known out done i b0=some r):q13x r_ sender now known out done i b0=some r :=
 qjp (es:=q16f) (hs:=[]) [] (by kernel_rfl) trivial trivial (by kernel_rfl) h
def q13y:=qk9 Tryz.prog lv X0 5 (qg9 (cdF Tryz.f18) 5) q142 q140 (fun x=>q13x x.1.1 x.1.2.1 x.1.2.2.1 x.1.2.2.2.1 x.1.2.2.2.2.1 x.1.2.2.2.2.2.1 x.1.2.2.2.2.2.2 x.2) (fun _ _ h=>qjo h)
def q13u:Cod (V×List B) ((Nat×Bool)×(List S44)):=(cPair (vTup (qjl (vRow 0) (qjn (vC cBool)))) (qjn (bRow q9h)))
def q144 (r_:(List S44)) (sender:ByteArray) (now:Int):Option ((Nat×Bool)×(List S44)):=fS Tryz.prog lv X0 18 q13t q13u (r_,sender,now)
def q145 (r_:(List S44)) (sender:ByteArray) (now:Int):Option ((Nat×Bool)×(List S44)) :=
 (gdE (EC.isL q9h (EC.encL q9h r_))<|
 ((q13d (EC.decL q9h (EC.encL q9h r_)) sender).bind fun r0 =>
 (gdE (EC.isL q9h (EC.encL q9h r_))<|
 ((q13x (EC.decL q9h (EC.encL q9h r_)) sender now (decide (r0≥0)) 0 false 0 (EC.decL q9h [])).bind fun r1 =>
 (brE (!r1.1.2.2.2.2.2.1)
 (gdE ((((List.all [[(C.str r1.1.2.1),(C.int Go.IntKind.i64 r1.1.2.2.1)]] (fun (el:(List C))=>((List.length el)==2)))&&(List.all (EC.encL q9h r1.2) (fun (el:(List C))=>((List.length el)==2))))&&(decide (((((r1.1.2.2.2.2.1+(List.length [[(C.str r1.1.2.1),(C.int Go.IntKind.i64 r1.1.2.2.1)]]))+((r1.1.2.2.2.2.1+(List.length [[(C.str r1.1.2.1),(C.int Go.IntKind.i64 r1.1.2.2.1)]])) / 4))+192)*24)≤281474976710656)))&&(decide ((r1.1.2.2.2.2.1+(List.length [[(C.str r1.1.2.1),(C.int Go.IntKind.i64 r1.1.2.2.1)]]))≤9223372036854775807)))<|
 (gdE (EC.isL q9h ((EC.encL q9h r1.2)++[[(C.str r1.1.2.1),(C.int Go.IntKind.i64 r1.1.2.2.1)]]))<|
 (some (((r1.1.2.2.2.2.1+(List.length [[(C.str r1.1.2.1),(C.int Go.IntKind.i64 r1.1.2.2.1)]])),(decide ((((r1.1.2.2.2.2.1+(List.length [[(C.str r1.1.2.1),(C.int Go.IntKind.i64 r1.1.2.2.1)]])):Nat):Int)≤300))),(EC.decL q9h ((EC.encL q9h r1.2)++[[(C.str r1.1.2.1),(C.int Go.IntKind.i64 r1.1.2.2.1)]]))))))
 (gdE (EC.isL q9h (EC.encL q9h r1.2))<|
 (some ((r1.1.2.2.2.2.1,(decide (((r1.1.2.2.2.2.1:Nat):Int)≤300))),(EC.decL q9h (EC.encL q9h r1.2))))))))))
theorem q13w {r_ sender now r} (h:q145 r_ sender now=some r):q144 r_ sender now=some r :=
 qc8 (es:=q16f) (hs:=[]) [q13y] Tryz.func18 rfl (by kernel_rfl) rfl (by kernel_rfl) (by kernel_rfl) ⟨⟨_,rfl,rfl⟩,trivial⟩ trivial (by kernel_rfl) h
def q13v:=entS Tryz.prog lv X0 18 [] q13t q13u (fun x=>q144 x.1 x.2.1 x.2.2) (fun _ _ h=>qc7 h)
def q16j:=q13v::q16f
def q14q:=(qjl (vC (cSl q9h)) (qjn (vC (cSl q9h))))
def q150:=sLS [0,1,5] (qjl (vC (cSl q9h)) (qjl (vC (cSl q9h)) (qjn (vC (cInt .i64))))) qjm [] [] (by decide) (fun _=>rfl)
def q14z:=sLS [0,1,5,14] (qjl (vC (cSl q9h)) (qjl (vC (cSl q9h)) (qjl (vC (cInt .i64)) (qjn (vC cBool))))) qjm [] [] (by decide) (fun _=>rfl)
def q14y:=sLS [4] (qjn (vC cBool)) qjm [] [] (by decide) (fun _=>rfl)
def q14x:=oOr 1 q14y (oAt 2 q14z) (fun x=>(by decide:(2:Nat)≠1))
def q14u (a:(List S44)) (b:(List S44)) (i:Int):Option ((Bool×Unit)⊕(((List S44)×(List S44)×Int×Bool)×Unit)):=lS Tryz.prog lv X0 21 26 (qg9 (cdF Tryz.f21) 4) q150 q14x ((a,b,i),())
def q151 (a:(List S44)) (b:(List S44)) (i:Int):Option ((Bool×Unit)⊕(((List S44)×(List S44)×Int×Bool)×Unit)) :=
 (brE (decide (i<(List.length (EC.encL q9h a):Int)))
 (gdE (decide (0≤i))<|
 (gdE ((decide ((Int.toNat i)<(List.length (EC.encL q9h a))))&&(isE [K1.str,(K1.int Go.IntKind.i64)] 0 (List.getD (EC.encL q9h a) (Int.toNat i) [])))<|
 (gdE (decide (0≤i))<|
 (gdE ((decide ((Int.toNat i)<(List.length (EC.encL q9h b))))&&(isE [K1.str,(K1.int Go.IntKind.i64)] 0 (List.getD (EC.encL q9h b) (Int.toNat i) [])))<|
 (brE (!(((qrk (List.getD (List.getD (EC.encL q9h a) (Int.toNat i) []) 0 C.ne))==(qrk (List.getD (List.getD (EC.encL q9h b) (Int.toNat i) []) 0 C.ne)))&&(((qiy (List.getD (List.getD (EC.encL q9h a) (Int.toNat i) []) 1 C.ne))==(qiy (List.getD (List.getD (EC.encL q9h b) (Int.toNat i) []) 1 C.ne)))&&true)))
 (some (.inl (false,())))
 (gdE (EC.isL q9h (EC.encL q9h a))<|
 (gdE (EC.isL q9h (EC.encL q9h b))<|
 (q14u (EC.decL q9h (EC.encL q9h a)) (EC.decL q9h (EC.encL q9h b)) (IntKind.wrap .i64 (i+1))))))))))
 (gdE (EC.isL q9h (EC.encL q9h a))<|
 (gdE (EC.isL q9h (EC.encL q9h b))<|
 (some (.inr (((EC.decL q9h (EC.encL q9h a)),((EC.decL q9h (EC.encL q9h b)),(i,false))),()))))))
theorem q14w {a b i r} (h:q151 a b i=some r):q14u a b i=some r :=
 qjp (es:=q16j) (hs:=[]) [] (by kernel_rfl) trivial trivial (by kernel_rfl) h
def q14v:=qk9 Tryz.prog lv X0 4 (qg9 (cdF Tryz.f21) 4) q150 q14x (fun x=>q14u x.1.1 x.1.2.1 x.1.2.2) (fun _ _ h=>qjo h)
def q14r:Cod (V×List B) Bool:=(cFstU (cPair (vC cBool) qjm))
def q152 (a:(List S44)) (b:(List S44)):Option Bool:=fS Tryz.prog lv X0 21 q14q q14r (a,b)
def q153 (a:(List S44)) (b:(List S44)):Option Bool :=
 (brE ((List.length (EC.encL q9h a):Int) != (List.length (EC.encL q9h b):Int))
 (some false)
 (gdE (EC.isL q9h (EC.encL q9h a))<|
 (gdE (EC.isL q9h (EC.encL q9h b))<|
 ((q14u (EC.decL q9h (EC.encL q9h a)) (EC.decL q9h (EC.encL q9h b)) 0).bind fun r0 =>
 (Sum.elim (fun r1=>(some r1.1))
 (fun r1=>(some true)) r0)))))
theorem q14t {a b r} (h:q153 a b=some r):q152 a b=some r :=
 qc8 (es:=q16j) (hs:=[]) [q14v] Tryz.func21 rfl (by kernel_rfl) rfl (by kernel_rfl) (by kernel_rfl) ⟨⟨_,rfl,rfl⟩,trivial⟩ trivial (by kernel_rfl) h
def q14s:=entS Tryz.prog lv X0 21 [] q14q q14r (fun x=>q152 x.1 x.2) (fun _ _ h=>qc7 h)
def q16m:=q14s::q16j
def q14c:=(qjl (vAgg (qjl (vC cStr) (qjl (vC (cSl q9k)) (qjl (vC cStr) (qjl (vC (cSl q9j)) (qjn (vC (cSl q9i)))))))) (qjn (vAgg (qjl (vC cStr) (qjl (vC (cSl q9k)) (qjl (vC cStr) (qjl (vC (cSl q9j)) (qjn (vC (cSl q9i))))))))))
def q14m:=sLS [2,3,5] (qjl (vPtr 0 0) (qjl (vPtr 1 0) (qjn (vC (cInt .i64))))) (qjl (qmx (bBox (qjl (vC cStr) (qjl (vC (cSl q9k)) (qjl (vC cStr) (qjl (vC (cSl q9j)) (qjn (vC (cSl q9i))))))))) (qjn (qmx (bBox (qjl (vC cStr) (qjl (vC (cSl q9k)) (qjl (vC cStr) (qjl (vC (cSl q9j)) (qjn (vC (cSl q9i))))))))))) [false,false] [] (by decide) (fun _=>rfl)
def q14l:=sLS [2,3,5,46] (qjl (vPtr 0 0) (qjl (vPtr 1 0) (qjl (vC (cInt .i64)) (qjn (vC cBool))))) (qjl (qmx (bBox (qjl (vC cStr) (qjl (vC (cSl q9k)) (qjl (vC cStr) (qjl (vC (cSl q9j)) (qjn (vC (cSl q9i))))))))) (qjn (qmx (bBox (qjl (vC cStr) (qjl (vC (cSl q9k)) (qjl (vC cStr) (qjl (vC (cSl q9j)) (qjn (vC (cSl q9i))))))))))) [false,false] [] (by decide) (fun _=>rfl)
def q14k:=sLS [4] (qjn (vC cBool)) qjm [] [] (by decide) (fun _=>rfl)
def q14j:=oOr 1 q14k (oAt 2 q14l) (fun x=>(by decide:(2:Nat)≠1))
def q14g (i:Int) (b0:ByteArray) (b0_1:(List S81)) (b0_2:ByteArray) (b0_3:(List S57)) (b0_4:(List Int)) (b1:ByteArray) (b1_1:(List S81)) (b1_2:ByteArray) (b1_3:(List S57)) (b1_4:(List Int)):Option ((Bool×Unit)⊕((Unit×Unit×Int×Bool)×((ByteArray×(List S81)×ByteArray×(List S57)×(List Int))×(ByteArray×(List S81)×ByteArray×(List S57)×(List Int))))):=lS Tryz.prog lv X0 19 62 (qg9 (cdF Tryz.f19) 4) q14m q14j (((),(),i),((b0,b0_1,b0_2,b0_3,b0_4),(b1,b1_1,b1_2,b1_3,b1_4)))
def q14n (i:Int) (b0:ByteArray) (b0_1:(List S81)) (b0_2:ByteArray) (b0_3:(List S57)) (b0_4:(List Int)) (b1:ByteArray) (b1_1:(List S81)) (b1_2:ByteArray) (b1_3:(List S57)) (b1_4:(List Int)):Option ((Bool×Unit)⊕((Unit×Unit×Int×Bool)×((ByteArray×(List S81)×ByteArray×(List S57)×(List Int))×(ByteArray×(List S81)×ByteArray×(List S57)×(List Int))))) :=
 (brE (decide (i<(List.length (EC.encL q9k b0_1):Int)))
 (gdE (decide (0≤i))<|
 (gdE ((decide ((Int.toNat i)<(List.length (EC.encL q9k b0_1))))&&(isE [K1.str,(K1.int Go.IntKind.i64)] 0 (List.getD (EC.encL q9k b0_1) (Int.toNat i) [])))<|
 (gdE (decide (0≤i))<|
 (gdE ((decide ((Int.toNat i)<(List.length (EC.encL q9k b1_1))))&&(isE [K1.str,(K1.int Go.IntKind.i64)] 0 (List.getD (EC.encL q9k b1_1) (Int.toNat i) [])))<|
 (brE (!(((qrk (List.getD (List.getD (EC.encL q9k b0_1) (Int.toNat i) []) 0 C.ne))==(qrk (List.getD (List.getD (EC.encL q9k b1_1) (Int.toNat i) []) 0 C.ne)))&&(((qiy (List.getD (List.getD (EC.encL q9k b0_1) (Int.toNat i) []) 1 C.ne))==(qiy (List.getD (List.getD (EC.encL q9k b1_1) (Int.toNat i) []) 1 C.ne)))&&true)))
 (some (.inl (false,())))
 (gdE (EC.isL q9k (EC.encL q9k b0_1))<|
 (gdE (EC.isL q9j (EC.encL q9j b0_3))<|
 (gdE (EC.isL q9i (EC.encL q9i b0_4))<|
 (gdE (EC.isL q9k (EC.encL q9k b1_1))<|
 (gdE (EC.isL q9j (EC.encL q9j b1_3))<|
 (gdE (EC.isL q9i (EC.encL q9i b1_4))<|
 (q14g (IntKind.wrap .i64 (i+1)) b0 (EC.decL q9k (EC.encL q9k b0_1)) b0_2 (EC.decL q9j (EC.encL q9j b0_3)) (EC.decL q9i (EC.encL q9i b0_4)) b1 (EC.decL q9k (EC.encL q9k b1_1)) b1_2 (EC.decL q9j (EC.encL q9j b1_3)) (EC.decL q9i (EC.encL q9i b1_4))))))))))))))
 (gdE (EC.isL q9k (EC.encL q9k b0_1))<|
 (gdE (EC.isL q9j (EC.encL q9j b0_3))<|
 (gdE (EC.isL q9i (EC.encL q9i b0_4))<|
 (gdE (EC.isL q9k (EC.encL q9k b1_1))<|
 (gdE (EC.isL q9j (EC.encL q9j b1_3))<|
 (gdE (EC.isL q9i (EC.encL q9i b1_4))<|
 (some (.inr (((),((),(i,false))),((b0,((EC.decL q9k (EC.encL q9k b0_1)),(b0_2,((EC.decL q9j (EC.encL q9j b0_3)),(EC.decL q9i (EC.encL q9i b0_4)))))),(b1,((EC.decL q9k (EC.encL q9k b1_1)),(b1_2,((EC.decL q9j (EC.encL q9j b1_3)),(EC.decL q9i (EC.encL q9i b1_4)))))))))))))))))
theorem q14i {i b0 b0_1 b0_2 b0_3 b0_4 b1 b1_1 b1_2 b1_3 b1_4 r} (h:q14n i b0 b0_1 b0_2 b0_3 b0_4 b1 b1_1 b1_2 b1_3 b1_4=some r):q14g i b0 b0_1 b0_2 b0_3 b0_4 b1 b1_1 b1_2 b1_3 b1_4=some r :=
 qjp (es:=q16m) (hs:=[]) [] (by kernel_rfl) trivial trivial (by kernel_rfl) h
def q14h:=qk9 Tryz.prog lv X0 4 (qg9 (cdF Tryz.f19) 4) q14m q14j (fun x=>q14g x.1.2.2 x.2.1.1 x.2.1.2.1 x.2.1.2.2.1 x.2.1.2.2.2.1 x.2.1.2.2.2.2 x.2.2.1 x.2.2.2.1 x.2.2.2.2.1 x.2.2.2.2.2.1 x.2.2.2.2.2.2) (fun _ _ h=>qjo h)
def q14d:Cod (V×List B) Bool:=(cFstU (cPair (vC cBool) qjm))
def q14o (a_Envelope_From:ByteArray) (a_Envelope_To:(List S81)) (a_Envelope_Id:ByteArray) (a_Message_Fields:(List S57)) (a_Message_Body:(List Int)) (b_Envelope_From:ByteArray) (b_Envelope_To:(List S81)) (b_Envelope_Id:ByteArray) (b_Message_Fields:(List S57)) (b_Message_Body:(List Int)):Option Bool:=fS Tryz.prog lv X0 19 q14c q14d ((a_Envelope_From,a_Envelope_To,a_Envelope_Id,a_Message_Fields,a_Message_Body),(b_Envelope_From,b_Envelope_To,b_Envelope_Id,b_Message_Fields,b_Message_Body))
def q14p (a_Envelope_From:ByteArray) (a_Envelope_To:(List S81)) (a_Envelope_Id:ByteArray) (a_Message_Fields:(List S57)) (a_Message_Body:(List Int)) (b_Envelope_From:ByteArray) (b_Envelope_To:(List S81)) (b_Envelope_Id:ByteArray) (b_Message_Fields:(List S57)) (b_Message_Body:(List Int)):Option Bool :=
 (brE ((!(a_Envelope_From.toList==b_Envelope_From.toList))==false)
 (brE ((!(a_Envelope_Id.toList==b_Envelope_Id.toList))==false)
 (brE (((List.length (EC.encL q9k a_Envelope_To):Int) != (List.length (EC.encL q9k b_Envelope_To):Int))==false)
 (gdE (EC.isL q9j (EC.encL q9j a_Message_Fields))<|
 (gdE (EC.isL q9i (EC.encL q9i a_Message_Body))<|
 (gdE (EC.isL q9j (EC.encL q9j b_Message_Fields))<|
 (gdE (EC.isL q9i (EC.encL q9i b_Message_Body))<|
 ((q10v (EC.decL q9j (EC.encL q9j a_Message_Fields)) (EC.decL q9i (EC.encL q9i a_Message_Body)) (EC.decL q9j (EC.encL q9j b_Message_Fields)) (EC.decL q9i (EC.encL q9i b_Message_Body))).bind fun r0 =>
 (brE (!r0)
 (some false)
 (gdE (EC.isL q9k (EC.encL q9k a_Envelope_To))<|
 (gdE (EC.isL q9j (EC.encL q9j a_Message_Fields))<|
 (gdE (EC.isL q9i (EC.encL q9i a_Message_Body))<|
 (gdE (EC.isL q9k (EC.encL q9k b_Envelope_To))<|
 (gdE (EC.isL q9j (EC.encL q9j b_Message_Fields))<|
 (gdE (EC.isL q9i (EC.encL q9i b_Message_Body))<|
 ((q14g 0 a_Envelope_From (EC.decL q9k (EC.encL q9k a_Envelope_To)) a_Envelope_Id (EC.decL q9j (EC.encL q9j a_Message_Fields)) (EC.decL q9i (EC.encL q9i a_Message_Body)) b_Envelope_From (EC.decL q9k (EC.encL q9k b_Envelope_To)) b_Envelope_Id (EC.decL q9j (EC.encL q9j b_Message_Fields)) (EC.decL q9i (EC.encL q9i b_Message_Body))).bind fun r1 =>
 (Sum.elim (fun r2=>(some r2.1))
 (fun r2=>(some true)) r1))))))))))))))
 (some false))
 (some false))
 (some false))
theorem q14f {a_Envelope_From a_Envelope_To a_Envelope_Id a_Message_Fields a_Message_Body b_Envelope_From b_Envelope_To b_Envelope_Id b_Message_Fields b_Message_Body r} (h:q14p a_Envelope_From a_Envelope_To a_Envelope_Id a_Message_Fields a_Message_Body b_Envelope_From b_Envelope_To b_Envelope_Id b_Message_Fields b_Message_Body=some r):q14o a_Envelope_From a_Envelope_To a_Envelope_Id a_Message_Fields a_Message_Body b_Envelope_From b_Envelope_To b_Envelope_Id b_Message_Fields b_Message_Body=some r :=
 qc8 (es:=q16m) (hs:=[]) [q14h] Tryz.func19 rfl (by kernel_rfl) rfl (by kernel_rfl) (by kernel_rfl) ⟨⟨_,rfl,rfl⟩,trivial⟩ trivial (by kernel_rfl) h
def q14e:=entS Tryz.prog lv X0 19 [] q14c q14d (fun x=>q14o x.1.1 x.1.2.1 x.1.2.2.1 x.1.2.2.2.1 x.1.2.2.2.2 x.2.1 x.2.2.1 x.2.2.2.1 x.2.2.2.2.1 x.2.2.2.2.2) (fun _ _ h=>qc7 h)
def q16l:=q14e::q16m
end
end Go.Proofs.YtepmpilapglklaaGreat
