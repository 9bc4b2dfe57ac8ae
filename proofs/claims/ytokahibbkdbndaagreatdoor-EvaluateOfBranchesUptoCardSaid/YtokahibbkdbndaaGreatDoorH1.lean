/- Functions of the program as plain functions: made by program from the machine. -/
import Derived.Test.YtokahibbkdbndaaGreatDoorZ18
namespace Go.Proofs.YtokahibbkdbndaaGreatDoor
open Go.RowKit
set_option maxRecDepth 100000
noncomputable section
def q59:=(q279 (vC (cInt .i64)) (q27b (vC (cInt .i64))))
def q5a:Cod (V × List B) (Int × Int):=(cFstU (cPair (vAgg (q279 (vC (cInt .i64)) (q27b (vC (cInt .i64))))) q27a))
def q5d (code:Int) (at_:Int):Option (Int × Int):=fS Tryz.prog lv X0 57 q59 q5a (code,at_)
def q5e (code:Int) (at_:Int):Option (Int × Int) :=
 (some (code,at_))
theorem q5c {code} {at_} {r} (h:q5e code at_=some r):q5d code at_=some r :=
 qf2 (es:=tab0) (hs:=[]) [] Tryz.func57 rfl (by kernel_rfl) rfl (by kernel_rfl) (by kernel_rfl) trivial trivial (by kernel_rfl) h
def q5b:=entS Tryz.prog lv X0 57 [] q59 q5a (fun x=>q5d x.1 x.2) (fun _ _ h=>qf1 h)
def qze:=q5b::tab0
def q6a:Cod (List V) Unit:=q27a
def q6b:Cod (V × List B) (Int × Int):=(cFstU (cPair (vAgg (q279 (vC (cInt .i64)) (q27b (vC (cInt .i64))))) q27a))
def q6e :Option (Int × Int):=fS Tryz.prog lv X0 59 q6a q6b ()
def q6f :Option (Int × Int) :=
 (some (0,0))
theorem q6d {r} (h:q6f =some r):q6e =some r :=
 qf2 (es:=qze) (hs:=[]) [] Tryz.func59 rfl (by kernel_rfl) rfl (by kernel_rfl) (by kernel_rfl) trivial trivial (by kernel_rfl) h
def q6c:=entS Tryz.prog lv X0 59 [] q6a q6b (fun x=>q6e ) (fun _ _ h=>qf1 h)
def qzj:=q6c::qze
def q53:=(q27b (vAgg (q279 (vC (cInt .i64)) (q27b (vC (cInt .i64))))))
def q54:Cod (V × List B) Bool:=(cFstU (cPair (vC cBool) q27a))
def q57 (f_Code:Int) (f_Index:Int):Option Bool:=fS Tryz.prog lv X0 49 q53 q54 (f_Code,f_Index)
def q58 (f_Code:Int) (f_Index:Int):Option Bool :=
 (some (f_Code != 0))
theorem q56 {f_Code} {f_Index} {r} (h:q58 f_Code f_Index=some r):q57 f_Code f_Index=some r :=
 qf2 (es:=qzj) (hs:=[]) [] Tryz.func49 rfl (by kernel_rfl) rfl (by kernel_rfl) (by kernel_rfl) trivial trivial (by kernel_rfl) h
def q55:=entS Tryz.prog lv X0 49 [] q53 q54 (fun x=>q57 x.1 x.2) (fun _ _ h=>qf1 h)
def qzd:=q55::qzj
def q5f:=(q27b (vC (cInt .u8)))
def q5g:Cod (V × List B) Bool:=(cFstU (cPair (vC cBool) q27a))
def q5j (c:Int):Option Bool:=fS Tryz.prog lv X0 86 q5f q5g c
def q5k (c:Int):Option Bool :=
 (brE ((decide (c ≥ 97))==true)
 (brE ((decide (c≤122))==false)
 (brE ((decide (c ≥ 65))==true)
 (brE ((decide (c≤90))==false)
 (brE ((decide (c ≥ 48))==true)
 (some (decide (c≤57)))
 (some false))
 (some true))
 (brE ((decide (c ≥ 48))==true)
 (some (decide (c≤57)))
 (some false)))
 (some true))
 (brE ((decide (c ≥ 65))==true)
 (brE ((decide (c≤90))==false)
 (brE ((decide (c ≥ 48))==true)
 (some (decide (c≤57)))
 (some false))
 (some true))
 (brE ((decide (c ≥ 48))==true)
 (some (decide (c≤57)))
 (some false))))
theorem q5i {c} {r} (h:q5k c=some r):q5j c=some r :=
 qf2 (es:=qzd) (hs:=[]) [] Tryz.func86 rfl (by kernel_rfl) rfl (by kernel_rfl) (by kernel_rfl) trivial trivial (by kernel_rfl) h
def q5h:=entS Tryz.prog lv X0 86 [] q5f q5g (fun x=>q5j x) (fun _ _ h=>qf1 h)
def qzf:=q5h::qzd
def q4j:=(q27b (vC (cInt .u8)))
def q4k:Cod (V × List B) Bool:=(cFstU (cPair (vC cBool) q27a))
def q4n (c:Int):Option Bool:=fS Tryz.prog lv X0 146 q4j q4k c
def q4o (c:Int):Option Bool :=
 (brE ((c==32)==false)
 (some (c==9))
 (some true))
theorem q4m {c} {r} (h:q4o c=some r):q4n c=some r :=
 qf2 (es:=qzf) (hs:=[]) [] Tryz.func146 rfl (by kernel_rfl) rfl (by kernel_rfl) (by kernel_rfl) trivial trivial (by kernel_rfl) h
def q4l:=entS Tryz.prog lv X0 146 [] q4j q4k (fun x=>q4n x) (fun _ _ h=>qf1 h)
def qzb:=q4l::qzf
def q26q:EC Int where
 enc x:=[.int .u8 x]
 dec c:=q273 (c.getD 0 .ne)
 is c:=isE [.int .u8] 0 c
 enc_dec h:=q8r h
 dec_enc x:=by rfl
 is_enc x:=by simp [isE,isK]
theorem enc_5 (x:Int):q26q.enc x=[.int .u8 x]:=rfl
theorem isE_5 (xs:List Int) (n:Nat):isE [.int .u8] 0 ((q26q.encL xs).getD n [])=decide (n<xs.length):=by
 by_cases h:n<xs.length
 ·simp only [EC.getD_lt _ _ h];simp [enc_5,isE,isK,h]
 ·simp only [EC.getD_ge _ _ (Nat.not_lt.1 h)];simp [isE,isK,h]
theorem at_5_0 (xs:List Int) (n:Nat):q273 (((q26q.encL xs).getD n []).getD 0 .ne)=(xs.getD n (q26q.dec [])):=by
 by_cases h:n<xs.length
 ·simp only [EC.getD_lt _ _ h];simp [enc_5,h,q273,List.getD_eq_getElem?_getD]
 ·simp only [EC.getD_ge _ _ (Nat.not_lt.1 h)];simp [Nat.not_lt.1 h,q26q,q273,List.getD_eq_getElem?_getD]
theorem len_5 (xs:List Int) (n:Nat) (h:n<xs.length):((q26q.encL xs).getD n []).length=1:=by rw [EC.getD_lt _ _ h];rfl
theorem all_5 (xs:List Int):(q26q.encL xs).all (fun (el:List C)=>el.length==1)=true:=by induction xs with|nil=>rfl|cons x xs ih=>first|(simp [EC.encL,enc_5];done)|simpa [EC.encL,enc_5] using ih
theorem qxf (xs:List Int) (n:Nat) (a0:Int):(q26q.encL xs).set n (splice ((q26q.encL xs).getD n []) 0 [.int .u8 a0])=q26q.encL (xs.set n (a0)):=by
 by_cases h:n<xs.length
 ·rw [EC.getD_lt _ _ h];simp [EC.encL,List.map_set,enc_5,splice]
 ·simp [EC.encL,List.set_eq_of_length_le,Nat.not_lt.1 h]
def q5l:=(q27b (vC cStr))
def q5u:=sLS [3,8,9,10] (q279 (vRow 0) (q279 (vRow 0) (q279 (vC (cInt .i64)) (q27b (vC (cInt .i64)))))) (q27b (q27g (bRow q26q))) [false] [] (by decide) (fun _=>rfl)
def q5t:=sLS [3,8,9,10,11] (q279 (vRow 0) (q279 (vRow 0) (q279 (vC (cInt .i64)) (q279 (vC (cInt .i64)) (q27b (vC cBool)))))) (q27b (q27g (bRow q26q))) [false] [] (by decide) (fun _=>rfl)
def q5s:=oAt 2 q5t
def q5p (b:Nat) (t8:Nat) (t9:Int) (t10:Int) (b0:(List Int)):Option ((Nat × Nat × Int × Int × Bool) × (List Int)):=lS Tryz.prog lv X0 154 30 (q270 (cdF Tryz.f154) 3) q5u q5s ((b,t8,t9,t10),b0)
def q5v (b:Nat) (t8:Nat) (t9:Int) (t10:Int) (b0:(List Int)):Option ((Nat × Nat × Int × Int × Bool) × (List Int)) :=
 (brE (decide (t10<t9))
 (gdE ((decide (0≤t10))&&(decide (t10<((t8:Nat):Int)))) <|
 (gdE ((decide ((Int.toNat t10)<(List.length (EC.encL q26q b0))))&&((List.length (List.getD (EC.encL q26q b0) (Int.toNat t10) []))==1)) <|
 (gdE (isP [(K1.int Go.IntKind.u8)] 0 (List.getD (EC.encL q26q b0) (Int.toNat t10) [])) <|
 (brE ((decide ((q273 (List.getD (List.getD (EC.encL q26q b0) (Int.toNat t10) []) 0 C.ne)) ≥ 65))==true)
 (brE (decide ((q273 (List.getD (List.getD (EC.encL q26q b0) (Int.toNat t10) []) 0 C.ne))≤90))
 (gdE ((decide (0≤t10))&&(decide (t10<((b:Nat):Int)))) <|
 (gdE ((decide ((Int.toNat t10)<(List.length (EC.encL q26q b0))))&&((List.length (List.getD (EC.encL q26q b0) (Int.toNat t10) []))==1)) <|
 (gdE (EC.isL q26q (List.set (EC.encL q26q b0) (Int.toNat t10) (splice (List.getD (EC.encL q26q b0) (Int.toNat t10) []) 0 [(C.int Go.IntKind.u8 (IntKind.wrap .u8 ((IntKind.wrap .u8 ((q273 (List.getD (List.getD (EC.encL q26q b0) (Int.toNat t10) []) 0 C.ne))+97)) - 65)))]))) <|
 (q5p b t8 t9 (IntKind.wrap .i64 (t10+1)) (EC.decL q26q (List.set (EC.encL q26q b0) (Int.toNat t10) (splice (List.getD (EC.encL q26q b0) (Int.toNat t10) []) 0 [(C.int Go.IntKind.u8 (IntKind.wrap .u8 ((IntKind.wrap .u8 ((q273 (List.getD (List.getD (EC.encL q26q b0) (Int.toNat t10) []) 0 C.ne))+97)) - 65)))])))))))
 (gdE (EC.isL q26q (EC.encL q26q b0)) <|
 (q5p b t8 t9 (IntKind.wrap .i64 (t10+1)) (EC.decL q26q (EC.encL q26q b0)))))
 (gdE (EC.isL q26q (EC.encL q26q b0)) <|
 (q5p b t8 t9 (IntKind.wrap .i64 (t10+1)) (EC.decL q26q (EC.encL q26q b0))))))))
 (gdE (EC.isL q26q (EC.encL q26q b0)) <|
 (some ((b,(t8,(t9,(t10,false)))),(EC.decL q26q (EC.encL q26q b0))))))
theorem q5r {b} {t8} {t9} {t10} {b0} {r} (h:q5v b t8 t9 t10 b0=some r):q5p b t8 t9 t10 b0=some r :=
 qm5 (es:=qzb) (hs:=[]) [] (by kernel_rfl) trivial trivial (by kernel_rfl) h
def q5q:=q27d Tryz.prog lv X0 3 (q270 (cdF Tryz.f154) 3) q5u q5s (fun x=>q5p x.1.1 x.1.2.1 x.1.2.2.1 x.1.2.2.2 x.2) (fun _ _ h=>qm4 h)
def q5m:Cod (V × List B) ByteArray:=(cFstU (cPair (vC cStr) q27a))
def q5w (s:ByteArray):Option ByteArray:=fS Tryz.prog lv X0 154 q5l q5m s
def q5x (s:ByteArray):Option ByteArray :=
 (gdE ((decide ((ByteArray.size s)≤9223372036854775807))&&(!((ByteArray.size s)==0))) <|
 (gdE (EC.isL q26q (bytesL s)) <|
 (Option.bind (q5p (ByteArray.size s) (ByteArray.size s) (s.size:Int) 0 (EC.decL q26q (bytesL s))) fun r0 =>
 (Option.bind (bytesOf (EC.encL q26q r0.2)) fun r1 =>
 (some (ByteArray.mk (List.toArray r1)))))))
theorem q5o {s} {r} (h:q5x s=some r):q5w s=some r :=
 qf2 (es:=qzb) (hs:=[]) [q5q] Tryz.func154 rfl (by kernel_rfl) rfl (by kernel_rfl) (by kernel_rfl) ⟨⟨_,rfl,rfl⟩,trivial⟩ trivial (by kernel_rfl) h
def q5n:=entS Tryz.prog lv X0 154 [] q5l q5m (fun x=>q5w x) (fun _ _ h=>qf1 h)
def qzg:=q5n::qzb
def q6g:=(q279 (vC cStr) (q27b (vC cStr)))
def q6h:Cod (V × List B) Bool:=(cFstU (cPair (vC cBool) q27a))
def q6k (a:ByteArray) (b:ByteArray):Option Bool:=fS Tryz.prog lv X0 153 q6g q6h (a,b)
def q6l (a:ByteArray) (b:ByteArray):Option Bool :=
 (brE (((a.size:Int)==(b.size:Int))==true)
 (Option.bind (q5w a) fun r0 =>
 (Option.bind (q5w b) fun r1 =>
 (some ((ByteArray.toList r0)==(ByteArray.toList r1)))))
 (some false))
theorem q6j {a} {b} {r} (h:q6l a b=some r):q6k a b=some r :=
 qf2 (es:=qzg) (hs:=[]) [] Tryz.func153 rfl (by kernel_rfl) rfl (by kernel_rfl) (by kernel_rfl) trivial trivial (by kernel_rfl) h
def q6i:=entS Tryz.prog lv X0 153 [] q6g q6h (fun x=>q6k x.1 x.2) (fun _ _ h=>qf1 h)
def qzk:=q6i::qzg
def q4p:=(q27b (vC (cSl q26q)))
def q4z:=sLS [0,3,4] (q279 (vC (cSl q26q)) (q279 (vC (cInt .i64)) (q27b (vC (cInt .i64))))) q27a [] [] (by decide) (fun _=>rfl)
def q4y:=sLS [0,3,4,9] (q279 (vC (cSl q26q)) (q279 (vC (cInt .i64)) (q279 (vC (cInt .i64)) (q27b (vC cBool))))) q27a [] [] (by decide) (fun _=>rfl)
def q4x:=sLS [2] (q27b (vC (cInt .i64))) q27a [] [] (by decide) (fun _=>rfl)
def q4w:=oOr 1 q4x (oAt 2 q4y) (fun x=>(by decide:(2:Nat)≠1))
def q4t (b:(List Int)) (column:Int) (i:Int):Option ((Int × Unit) ⊕ (((List Int) × Int × Int × Bool) × Unit)):=lS Tryz.prog lv X0 115 45 (q270 (cdF Tryz.f115) 3) q4z q4w ((b,column,i),())
def q50 (b:(List Int)) (column:Int) (i:Int):Option ((Int × Unit) ⊕ (((List Int) × Int × Int × Bool) × Unit)) :=
 (brE (decide (i<(List.length (EC.encL q26q b):Int)))
 (gdE (decide (0≤i)) <|
 (gdE ((decide ((Int.toNat i)<(List.length (EC.encL q26q b))))&&(isE [(K1.int Go.IntKind.u8)] 0 (List.getD (EC.encL q26q b) (Int.toNat i) []))) <|
 (brE (((q273 (List.getD (List.getD (EC.encL q26q b) (Int.toNat i) []) 0 C.ne))==13)==true)
 (brE ((decide ((IntKind.wrap .i64 (i+1))<(List.length (EC.encL q26q b):Int)))==true)
 (gdE (decide (0≤(IntKind.wrap .i64 (i+1)))) <|
 (gdE ((decide ((Int.toNat (IntKind.wrap .i64 (i+1)))<(List.length (EC.encL q26q b))))&&(isE [(K1.int Go.IntKind.u8)] 0 (List.getD (EC.encL q26q b) (Int.toNat (IntKind.wrap .i64 (i+1))) []))) <|
 (brE ((q273 (List.getD (List.getD (EC.encL q26q b) (Int.toNat (IntKind.wrap .i64 (i+1))) []) 0 C.ne))==10)
 (gdE (EC.isL q26q (EC.encL q26q b)) <|
 (q4t (EC.decL q26q (EC.encL q26q b)) 0 (IntKind.wrap .i64 ((IntKind.wrap .i64 (i+1))+1))))
 (brE (((q273 (List.getD (List.getD (EC.encL q26q b) (Int.toNat i) []) 0 C.ne))==13)==false)
 (brE ((q273 (List.getD (List.getD (EC.encL q26q b) (Int.toNat i) []) 0 C.ne))==10)
 (some (.inl (11,())))
 (brE (decide ((IntKind.wrap .i64 (column+1)) > 998))
 (some (.inl (1,())))
 (gdE (EC.isL q26q (EC.encL q26q b)) <|
 (q4t (EC.decL q26q (EC.encL q26q b)) (IntKind.wrap .i64 (column+1)) (IntKind.wrap .i64 (i+1))))))
 (some (.inl (11,())))))))
 (brE (((q273 (List.getD (List.getD (EC.encL q26q b) (Int.toNat i) []) 0 C.ne))==13)==false)
 (brE ((q273 (List.getD (List.getD (EC.encL q26q b) (Int.toNat i) []) 0 C.ne))==10)
 (some (.inl (11,())))
 (brE (decide ((IntKind.wrap .i64 (column+1)) > 998))
 (some (.inl (1,())))
 (gdE (EC.isL q26q (EC.encL q26q b)) <|
 (q4t (EC.decL q26q (EC.encL q26q b)) (IntKind.wrap .i64 (column+1)) (IntKind.wrap .i64 (i+1))))))
 (some (.inl (11,())))))
 (brE (((q273 (List.getD (List.getD (EC.encL q26q b) (Int.toNat i) []) 0 C.ne))==13)==false)
 (brE ((q273 (List.getD (List.getD (EC.encL q26q b) (Int.toNat i) []) 0 C.ne))==10)
 (some (.inl (11,())))
 (brE (decide ((IntKind.wrap .i64 (column+1)) > 998))
 (some (.inl (1,())))
 (gdE (EC.isL q26q (EC.encL q26q b)) <|
 (q4t (EC.decL q26q (EC.encL q26q b)) (IntKind.wrap .i64 (column+1)) (IntKind.wrap .i64 (i+1))))))
 (some (.inl (11,())))))))
 (gdE (EC.isL q26q (EC.encL q26q b)) <|
 (some (.inr (((EC.decL q26q (EC.encL q26q b)),(column,(i,false))),())))))
theorem q4v {b} {column} {i} {r} (h:q50 b column i=some r):q4t b column i=some r :=
 qm5 (es:=qzk) (hs:=[]) [] (by kernel_rfl) trivial trivial (by kernel_rfl) h
def q4u:=q27d Tryz.prog lv X0 3 (q270 (cdF Tryz.f115) 3) q4z q4w (fun x=>q4t x.1.1 x.1.2.1 x.1.2.2) (fun _ _ h=>qm4 h)
def q4q:Cod (V × List B) Int:=(cFstU (cPair (vC (cInt .i64)) q27a))
def q51 (b:(List Int)):Option Int:=fS Tryz.prog lv X0 115 q4p q4q b
def q52 (b:(List Int)):Option Int :=
 (gdE (EC.isL q26q (EC.encL q26q b)) <|
 (Option.bind (q4t (EC.decL q26q (EC.encL q26q b)) 0 0) fun r0 =>
 (Sum.elim (fun r1=>(some r1.1))
 (fun r1=>(some 0)) r0)))
theorem q4s {b} {r} (h:q52 b=some r):q51 b=some r :=
 qf2 (es:=qzk) (hs:=[]) [q4u] Tryz.func115 rfl (by kernel_rfl) rfl (by kernel_rfl) (by kernel_rfl) ⟨⟨_,rfl,rfl⟩,trivial⟩ trivial (by kernel_rfl) h
def q4r:=entS Tryz.prog lv X0 115 [] q4p q4q (fun x=>q51 x) (fun _ _ h=>qf1 h)
def qzc:=q4r::qzk
def q5y:=(q27b (vC (cInt .u8)))
def q5z:Cod (V × List B) Bool:=(cFstU (cPair (vC cBool) q27a))
def q62 (c:Int):Option Bool:=fS Tryz.prog lv X0 85 q5y q5z c
def q63 (c:Int):Option Bool :=
 (Option.bind (q5j c) fun r0 =>
 (brE (r0==false)
 (brE ((c==45)==false)
 (brE ((c==95)==false)
 (some (c==46))
 (some true))
 (some true))
 (some true)))
theorem q61 {c} {r} (h:q63 c=some r):q62 c=some r :=
 qf2 (es:=qzc) (hs:=[]) [] Tryz.func85 rfl (by kernel_rfl) rfl (by kernel_rfl) (by kernel_rfl) trivial trivial (by kernel_rfl) h
def q60:=entS Tryz.prog lv X0 85 [] q5y q5z (fun x=>q62 x) (fun _ _ h=>qf1 h)
def qzi:=q60::qzc
def q2f:Cod (List V) (ByteArray × Unit):=(q279 (vC cStr) (q27b (vFn 85 q27a)))
def q2p:=sLS [0,1,7,8] (q279 (vC cStr) (q279 (vFn 85 q27a) (q279 (vC (cInt .i64)) (q27b (vC (cInt .i64)))))) q27a [] [] (by decide) (fun _=>rfl)
def q2o:=sLS [0,1,7,8,9] (q279 (vC cStr) (q279 (vFn 85 q27a) (q279 (vC (cInt .i64)) (q279 (vC (cInt .i64)) (q27b (vC cBool)))))) q27a [] [] (by decide) (fun _=>rfl)
def q2n:=sLS [4] (q27b (vC cBool)) q27a [] [] (by decide) (fun _=>rfl)
def q2m:=oOr 1 q2n (oAt 2 q2o) (fun x=>(by decide:(2:Nat)≠1))
def q2j (s:ByteArray) (t7:Int) (t8:Int):Option ((Bool × Unit) ⊕ ((ByteArray × Unit × Int × Int × Bool) × Unit)):=lS Tryz.prog lv X0 84 18 (q270 (cdF Tryz.f84) 2) q2p q2m ((s,(),t7,t8),())
def q2q (s:ByteArray) (t7:Int) (t8:Int):Option ((Bool × Unit) ⊕ ((ByteArray × Unit × Int × Int × Bool) × Unit)) :=
 (brE (decide (t8<t7))
 (gdE ((decide (0≤t8))&&(decide ((Int.toNat t8)<(ByteArray.size s)))) <|
 (Option.bind (q62 (((UInt8.toNat (Array.getD (ByteArray.data s) (Int.toNat t8) (0:UInt8))):Nat):Int)) fun r0 =>
 (brE (!r0)
 (some (.inl (false,())))
 (q2j s t7 (IntKind.wrap .i64 (t8+1))))))
 (some (.inr ((s,((),(t7,(t8,false)))),()))))
theorem q2l {s} {t7} {t8} {r} (h:q2q s t7 t8=some r):q2j s t7 t8=some r :=
 qm5 (es:=qzi) (hs:=[]) [] (by kernel_rfl) trivial trivial (by kernel_rfl) h
def q2k:=q27d Tryz.prog lv X0 2 (q270 (cdF Tryz.f84) 2) q2p q2m (fun x=>q2j x.1.1 x.1.2.2.1 x.1.2.2.2) (fun _ _ h=>qm4 h)
def q2g:Cod (V × List B) Bool:=(cFstU (cPair (vC cBool) q27a))
def q2t (s:ByteArray):Option Bool:=fS Tryz.prog lv X0 84 q2f q2g (s,())
def q2v (s:ByteArray):Option Bool :=
 (Option.bind (q2j s (s.size:Int) 0) fun r0 =>
 (Sum.elim (fun r1=>(some r1.1))
 (fun r1=>(some true)) r0))
theorem q2i {s} {r} (h:q2v s=some r):q2t s=some r :=
 qf2 (es:=qzi) (hs:=[]) [q2k] Tryz.func84 rfl (by kernel_rfl) rfl (by kernel_rfl) (by kernel_rfl) ⟨⟨_,rfl,rfl⟩,trivial⟩ trivial (by kernel_rfl) h
def q2h:=entS Tryz.prog lv X0 84 [85] q2f q2g (fun x=>q2t x.1) (fun _ _ h=>qf1 h)
def qz9:=q2h::qzi
def q64:=(q27b (vC cStr))
def q65:Cod (V × List B) Bool:=(cFstU (cPair (vC cBool) q27a))
def q68 (s:ByteArray):Option Bool:=fS Tryz.prog lv X0 64 q64 q65 s
def q69 (s:ByteArray):Option Bool :=
 (brE ((!((ByteArray.toList s)==(ByteArray.toList ⟨#[]⟩)))==true)
 (brE ((decide ((s.size:Int)≤60))==true)
 (Option.bind (q2t s) fun r0 =>
 (some r0))
 (some false))
 (some false))
theorem q67 {s} {r} (h:q69 s=some r):q68 s=some r :=
 qf2 (es:=qz9) (hs:=[]) [] Tryz.func64 rfl (by kernel_rfl) rfl (by kernel_rfl) (by kernel_rfl) trivial trivial (by kernel_rfl) h
def q66:=entS Tryz.prog lv X0 64 [] q64 q65 (fun x=>q68 x) (fun _ _ h=>qf1 h)
def qzh:=q66::qz9
def qym:=(q279 (vC cStr) (q27b (vC cStr)))
def qyn:Cod (V × List B) Bool:=(cFstU (cPair (vC cBool) q27a))
def qyq (s:ByteArray) (prefix_:ByteArray):Option Bool:=fS Tryz.prog lv X0 161 qym qyn (s,prefix_)
def qyr (s:ByteArray) (prefix_:ByteArray):Option Bool :=
 (brE ((decide ((s.size:Int) ≥ (prefix_.size:Int)))==true)
 (gdE ((decide (0≤(prefix_.size:Int)))&&(decide ((prefix_.size:Int)≤(s.size:Int)))) <|
 (some ((ByteArray.toList (ByteArray.extract s 0 (Int.toNat (prefix_.size:Int))))==(ByteArray.toList prefix_))))
 (some false))
theorem qyp {s} {prefix_} {r} (h:qyr s prefix_=some r):qyq s prefix_=some r :=
 qf2 (es:=qzh) (hs:=[]) [] Tryz.func161 rfl (by kernel_rfl) rfl (by kernel_rfl) (by kernel_rfl) trivial trivial (by kernel_rfl) h
def qyo:=entS Tryz.prog lv X0 161 [] qym qyn (fun x=>qyq x.1 x.2) (fun _ _ h=>qf1 h)
def q10v:=qyo::qzh
def qys:=(q279 (vC cStr) (q27b (vC cStr)))
def qyt:Cod (V × List B) Bool:=(cFstU (cPair (vC cBool) q27a))
def qyw (s:ByteArray) (suffix:ByteArray):Option Bool:=fS Tryz.prog lv X0 162 qys qyt (s,suffix)
def qyx (s:ByteArray) (suffix:ByteArray):Option Bool :=
 (brE ((decide ((s.size:Int) ≥ (suffix.size:Int)))==true)
 (gdE ((decide (0≤(IntKind.wrap .i64 ((s.size:Int) - (suffix.size:Int)))))&&(decide ((IntKind.wrap .i64 ((s.size:Int) - (suffix.size:Int)))≤(s.size:Int)))) <|
 (some ((ByteArray.toList (ByteArray.extract s (Int.toNat (IntKind.wrap .i64 ((s.size:Int) - (suffix.size:Int)))) (ByteArray.size s)))==(ByteArray.toList suffix))))
 (some false))
theorem qyv {s} {suffix} {r} (h:qyx s suffix=some r):qyw s suffix=some r :=
 qf2 (es:=q10v) (hs:=[]) [] Tryz.func162 rfl (by kernel_rfl) rfl (by kernel_rfl) (by kernel_rfl) trivial trivial (by kernel_rfl) h
def qyu:=entS Tryz.prog lv X0 162 [] qys qyt (fun x=>qyw x.1 x.2) (fun _ _ h=>qf1 h)
def q10w:=qyu::q10v
def qya:=(q279 (vC cStr) (q27b (vC cStr)))
def qyb:Cod (V × List B) Bool:=(cFstU (cPair (vC cBool) q27a))
def qye (s:ByteArray) (prefix_:ByteArray):Option Bool:=fS Tryz.prog lv X0 141 qya qyb (s,prefix_)
def qyf (s:ByteArray) (prefix_:ByteArray):Option Bool :=
 (Option.bind (qyq s prefix_) fun r0 =>
 (some r0))
theorem qyd {s} {prefix_} {r} (h:qyf s prefix_=some r):qye s prefix_=some r :=
 qf2 (es:=q10w) (hs:=[]) [] Tryz.func141 rfl (by kernel_rfl) rfl (by kernel_rfl) (by kernel_rfl) trivial trivial (by kernel_rfl) h
def qyc:=entS Tryz.prog lv X0 141 [] qya qyb (fun x=>qye x.1 x.2) (fun _ _ h=>qf1 h)
def q10t:=qyc::q10w
def qyg:=(q279 (vC cStr) (q27b (vC cStr)))
def qyh:Cod (V × List B) Bool:=(cFstU (cPair (vC cBool) q27a))
def qyk (s:ByteArray) (suffix:ByteArray):Option Bool:=fS Tryz.prog lv X0 142 qyg qyh (s,suffix)
def qyl (s:ByteArray) (suffix:ByteArray):Option Bool :=
 (Option.bind (qyw s suffix) fun r0 =>
 (some r0))
theorem qyj {s} {suffix} {r} (h:qyl s suffix=some r):qyk s suffix=some r :=
 qf2 (es:=q10t) (hs:=[]) [] Tryz.func142 rfl (by kernel_rfl) rfl (by kernel_rfl) (by kernel_rfl) trivial trivial (by kernel_rfl) h
def qyi:=entS Tryz.prog lv X0 142 [] qyg qyh (fun x=>qyk x.1 x.2) (fun _ _ h=>qf1 h)
def q10u:=qyi::q10t
def qgr:=(q27b (vC (cInt .u8)))
def qgs:Cod (V × List B) Bool:=(cFstU (cPair (vC cBool) q27a))
def qgv (c:Int):Option Bool:=fS Tryz.prog lv X0 144 qgr qgs c
def qgw (c:Int):Option Bool :=
 (brE ((decide (c ≥ 33))==true)
 (brE ((decide (c≤126))==true)
 (some (c != 58))
 (some false))
 (some false))
theorem qgu {c} {r} (h:qgw c=some r):qgv c=some r :=
 qf2 (es:=q10u) (hs:=[]) [] Tryz.func144 rfl (by kernel_rfl) rfl (by kernel_rfl) (by kernel_rfl) trivial trivial (by kernel_rfl) h
def qgt:=entS Tryz.prog lv X0 144 [] qgr qgs (fun x=>qgv x) (fun _ _ h=>qf1 h)
def qzz:=qgt::q10u
def q1g:Cod (List V) (ByteArray × Unit):=(q279 (vC cStr) (q27b (vFn 144 q27a)))
def q1q:=sLS [0,1,7,8] (q279 (vC cStr) (q279 (vFn 144 q27a) (q279 (vC (cInt .i64)) (q27b (vC (cInt .i64)))))) q27a [] [] (by decide) (fun _=>rfl)
def q1p:=sLS [0,1,7,8,9] (q279 (vC cStr) (q279 (vFn 144 q27a) (q279 (vC (cInt .i64)) (q279 (vC (cInt .i64)) (q27b (vC cBool)))))) q27a [] [] (by decide) (fun _=>rfl)
def q1o:=sLS [4] (q27b (vC cBool)) q27a [] [] (by decide) (fun _=>rfl)
def q1n:=oOr 1 q1o (oAt 2 q1p) (fun x=>(by decide:(2:Nat)≠1))
def q1k (s:ByteArray) (t7:Int) (t8:Int):Option ((Bool × Unit) ⊕ ((ByteArray × Unit × Int × Int × Bool) × Unit)):=lS Tryz.prog lv X0 84 18 (q270 (cdF Tryz.f84) 2) q1q q1n ((s,(),t7,t8),())
def q1r (s:ByteArray) (t7:Int) (t8:Int):Option ((Bool × Unit) ⊕ ((ByteArray × Unit × Int × Int × Bool) × Unit)) :=
 (brE (decide (t8<t7))
 (gdE ((decide (0≤t8))&&(decide ((Int.toNat t8)<(ByteArray.size s)))) <|
 (Option.bind (qgv (((UInt8.toNat (Array.getD (ByteArray.data s) (Int.toNat t8) (0:UInt8))):Nat):Int)) fun r0 =>
 (brE (!r0)
 (some (.inl (false,())))
 (q1k s t7 (IntKind.wrap .i64 (t8+1))))))
 (some (.inr ((s,((),(t7,(t8,false)))),()))))
theorem q1m {s} {t7} {t8} {r} (h:q1r s t7 t8=some r):q1k s t7 t8=some r :=
 qm5 (es:=qzz) (hs:=[]) [] (by kernel_rfl) trivial trivial (by kernel_rfl) h
def q1l:=q27d Tryz.prog lv X0 2 (q270 (cdF Tryz.f84) 2) q1q q1n (fun x=>q1k x.1.1 x.1.2.2.1 x.1.2.2.2) (fun _ _ h=>qm4 h)
def q1h:Cod (V × List B) Bool:=(cFstU (cPair (vC cBool) q27a))
def q1u (s:ByteArray):Option Bool:=fS Tryz.prog lv X0 84 q1g q1h (s,())
def q1w (s:ByteArray):Option Bool :=
 (Option.bind (q1k s (s.size:Int) 0) fun r0 =>
 (Sum.elim (fun r1=>(some r1.1))
 (fun r1=>(some true)) r0))
theorem q1j {s} {r} (h:q1w s=some r):q1u s=some r :=
 qf2 (es:=qzz) (hs:=[]) [q1l] Tryz.func84 rfl (by kernel_rfl) rfl (by kernel_rfl) (by kernel_rfl) ⟨⟨_,rfl,rfl⟩,trivial⟩ trivial (by kernel_rfl) h
def q1i:=entS Tryz.prog lv X0 84 [144] q1g q1h (fun x=>q1u x.1) (fun _ _ h=>qf1 h)
def qz7:=q1i::qzz
def qgx:=(q27b (vC cStr))
def qgy:Cod (V × List B) Bool:=(cFstU (cPair (vC cBool) q27a))
def qh1 (s:ByteArray):Option Bool:=fS Tryz.prog lv X0 116 qgx qgy s
def qh2 (s:ByteArray):Option Bool :=
 (brE ((!((ByteArray.toList s)==(ByteArray.toList ⟨#[]⟩)))==true)
 (brE ((decide ((s.size:Int)≤60))==true)
 (Option.bind (q1u s) fun r0 =>
 (some r0))
 (some false))
 (some false))
theorem qh0 {s} {r} (h:qh2 s=some r):qh1 s=some r :=
 qf2 (es:=qz7) (hs:=[]) [] Tryz.func116 rfl (by kernel_rfl) rfl (by kernel_rfl) (by kernel_rfl) trivial trivial (by kernel_rfl) h
def qgz:=entS Tryz.prog lv X0 116 [] qgx qgy (fun x=>qh1 x) (fun _ _ h=>qf1 h)
def qzy:=qgz::qz7
def qgj:=(q27b (vC cStr))
def qgk:Cod (V × List B) Bool:=(cFstU (cPair (vC cBool) q27a))
def qgn (s:ByteArray):Option Bool:=fS Tryz.prog lv X0 145 qgj qgk s
def qgo (s:ByteArray):Option Bool :=
 (Option.bind (canyP s (ByteArray.mk (List.toArray [(13:UInt8),(10:UInt8),(0:UInt8)]))) fun r0 =>
 (some r0))
theorem qgm {s} {r} (h:qgo s=some r):qgn s=some r :=
 qf2 (es:=qzy) (hs:=[]) [] Tryz.func145 rfl (by kernel_rfl) rfl (by kernel_rfl) (by kernel_rfl) trivial trivial (by kernel_rfl) h
def qgl:=entS Tryz.prog lv X0 145 [] qgj qgk (fun x=>qgn x) (fun _ _ h=>qf1 h)
def qzx:=qgl::qzy
def qhi:=(q27b (vC cStr))
def qhj:Cod (V × List B) Bool:=(cFstU (cPair (vC cBool) q27a))
def qhm (s:ByteArray):Option Bool:=fS Tryz.prog lv X0 117 qhi qhj s
def qhn (s:ByteArray):Option Bool :=
 (Option.bind (qgn s) fun r0 =>
 (brE ((!r0)==true)
 (brE (((ByteArray.toList s)==(ByteArray.toList ⟨#[]⟩))==false)
 (gdE ((decide ((0:Int)≤0))&&(decide ((Int.toNat 0)<(ByteArray.size s)))) <|
 (Option.bind (q4n (((UInt8.toNat (Array.getD (ByteArray.data s) (Int.toNat 0) (0:UInt8))):Nat):Int)) fun r1 =>
 (brE ((!r1)==true)
 (gdE ((decide (0≤(IntKind.wrap .i64 ((s.size:Int) - 1))))&&(decide ((Int.toNat (IntKind.wrap .i64 ((s.size:Int) - 1)))<(ByteArray.size s)))) <|
 (Option.bind (q4n (((UInt8.toNat (Array.getD (ByteArray.data s) (Int.toNat (IntKind.wrap .i64 ((s.size:Int) - 1))) (0:UInt8))):Nat):Int)) fun r2 =>
 (some (!r2))))
 (some false))))
 (some true))
 (some false)))
theorem qhl {s} {r} (h:qhn s=some r):qhm s=some r :=
 qf2 (es:=qzx) (hs:=[]) [] Tryz.func117 rfl (by kernel_rfl) rfl (by kernel_rfl) (by kernel_rfl) trivial trivial (by kernel_rfl) h
def qhk:=entS Tryz.prog lv X0 117 [] qhi qhj (fun x=>qhm x) (fun _ _ h=>qf1 h)
def q101:=qhk::qzx
def qh4:=(q279 (vC cStr) (q27b (vC (cInt .i64))))
def qhe:=sLS [0,5,6] (q279 (vC cStr) (q279 (vC (cInt .i64)) (q27b (vC (cInt .i64))))) q27a [] [] (by decide) (fun _=>rfl)
def qhc:=sLS [0,5,6,32] (q279 (vC cStr) (q279 (vC (cInt .i64)) (q279 (vC (cInt .i64)) (q27b (vC cBool))))) q27a [] [] (by decide) (fun _=>rfl)
def qhd:SC ((ByteArray × Int × Int × Bool) × Unit):=sLS [0,5,6,12] (q279 (vC cStr) (q279 (vC (cInt .i64)) (q279 (vC (cInt .i64)) (q27b (vC cBool))))) q27a [] [] (by decide) (fun _=>rfl)
def qhb:=oOrK 2 [0,5,6,12] qhd (oAt 2 qhc) (fun x y=>.inr (st_ne 12 (by decide:(false:Bool)≠true)))
def qh8 (s:ByteArray) (best:Int) (i:Int):Option (((ByteArray × Int × Int × Bool) × Unit) ⊕ ((ByteArray × Int × Int × Bool) × Unit)):=lS Tryz.prog lv X0 118 35 (q270 (cdF Tryz.f118) 3) qhe qhb ((s,best,i),())
def qhf (s:ByteArray) (best:Int) (i:Int):Option (((ByteArray × Int × Int × Bool) × Unit) ⊕ ((ByteArray × Int × Int × Bool) × Unit)) :=
 (brE (decide (i<(s.size:Int)))
 (gdE ((decide (0≤i))&&(decide ((Int.toNat i)<(ByteArray.size s)))) <|
 (Option.bind (q4n (((UInt8.toNat (Array.getD (ByteArray.data s) (Int.toNat i) (0:UInt8))):Nat):Int)) fun r0 =>
 (brE ((!r0)==false)
 (gdE ((decide (0≤(IntKind.wrap .i64 (i - 1))))&&(decide ((Int.toNat (IntKind.wrap .i64 (i - 1)))<(ByteArray.size s)))) <|
 (Option.bind (q4n (((UInt8.toNat (Array.getD (ByteArray.data s) (Int.toNat (IntKind.wrap .i64 (i - 1))) (0:UInt8))):Nat):Int)) fun r1 =>
 (brE r1
 (qh8 s best (IntKind.wrap .i64 (i+1)))
 (brE ((decide (best > 0))==true)
 (brE (decide (i > 78))
 (some (.inr ((s,(best,(i,true))),())))
 (qh8 s i (IntKind.wrap .i64 (i+1))))
 (qh8 s i (IntKind.wrap .i64 (i+1)))))))
 (qh8 s best (IntKind.wrap .i64 (i+1))))))
 (some (.inl ((s,(best,(i,false))),()))))
theorem qha {s} {best} {i} {r} (h:qhf s best i=some r):qh8 s best i=some r :=
 qm5 (es:=q101) (hs:=[]) [] (by kernel_rfl) trivial trivial (by kernel_rfl) h
def qh9:=q27d Tryz.prog lv X0 3 (q270 (cdF Tryz.f118) 3) qhe qhb (fun x=>qh8 x.1.1 x.1.2.1 x.1.2.2) (fun _ _ h=>qm4 h)
def qh5:Cod (V × List B) Int:=(cFstU (cPair (vC (cInt .i64)) q27a))
def qhg (s:ByteArray) (from_:Int):Option Int:=fS Tryz.prog lv X0 118 qh4 qh5 (s,from_)
def qhh (s:ByteArray) (from_:Int):Option Int :=
 (Option.bind (qh8 s 0 (ite (true=true) (ite (from_<1) 1 from_) (ite (1<from_) 1 from_))) fun r0 =>
 (Sum.elim (fun r1=>(some r1.1.2.1))
 (fun r1=>(some r1.1.2.1)) r0))
theorem qh7 {s} {from_} {r} (h:qhh s from_=some r):qhg s from_=some r :=
 qf2 (es:=q101) (hs:=[]) [qh9] Tryz.func118 rfl (by kernel_rfl) rfl (by kernel_rfl) (by kernel_rfl) ⟨⟨_,rfl,rfl⟩,trivial⟩ trivial (by kernel_rfl) h
def qh6:=entS Tryz.prog lv X0 118 [] qh4 qh5 (fun x=>qhg x.1 x.2) (fun _ _ h=>qf1 h)
def q100:=qh6::q101
def q26v:EC ByteArray where
 enc x:=[.str x]
 dec c:=q27s (c.getD 0 .ne)
 is c:=isE [.str] 0 c
 enc_dec h:=q8r h
 dec_enc x:=by rfl
 is_enc x:=by simp [isE,isK]
theorem enc_9 (x:ByteArray):q26v.enc x=[.str x]:=rfl
theorem q26c (xs:List ByteArray) (n:Nat):q27s (((q26v.encL xs).getD n []).getD 0 .ne)=(xs.getD n (q26v.dec [])):=by
 by_cases h:n<xs.length
 ·simp only [EC.getD_lt _ _ h];simp [enc_9,h,q27s,List.getD_eq_getElem?_getD]
 ·simp only [EC.getD_ge _ _ (Nat.not_lt.1 h)];simp [Nat.not_lt.1 h,q26v,q27s,List.getD_eq_getElem?_getD]
theorem lit_9 (a0:ByteArray):([.str a0]:List C)=q26v.enc a0:=rfl
theorem q26a (xs:List ByteArray) (a0:ByteArray):q26v.encL xs++[[.str a0]]=q26v.encL (xs++[a0]):=by rw [lit_9];simp [EC.encL]
theorem q27z (xs:List ByteArray) (n:Nat) (h:n<xs.length):((q26v.encL xs).getD n []).length=1:=by rw [EC.getD_lt _ _ h];rfl
theorem q268 (xs:List ByteArray):(q26v.encL xs).all (fun (el:List C)=>el.length==1)=true:=by induction xs with|nil=>rfl|cons x xs ih=>first|(simp [EC.encL,enc_9];done)|simpa [EC.encL,enc_9] using ih
def qfx:=(q279 (vC cStr) (q27b (vC cStr)))
def qgf:=sLS [5,6,7,8] (q279 (vPtr 0 0) (q279 (vC cStr) (q279 (vC (cInt .i64)) (q27b (vRow 1))))) (q279 (q27g (bBox (q279 (vC (cInt .i64)) (q27b (vC (cInt .i64)))))) (q27b (q27g (bRow q26v)))) [false,false] [] (by decide) (fun _=>rfl)
def qgd:=sLS [5,6,8,9,41] (q279 (vPtr 0 0) (q279 (vC cStr) (q279 (vRow 1) (q279 (vC (cInt .i64)) (q27b (vC cBool)))))) (q279 (q27g (bBox (q279 (vC (cInt .i64)) (q27b (vC (cInt .i64)))))) (q27b (q27g (bRow q26v)))) [false,false] [] (by decide) (fun _=>rfl)
def qge:SC ((Unit × ByteArray × Int × Nat × Bool) × ((Int × Int) × (List ByteArray))):=sLS [5,6,7,8,36] (q279 (vPtr 0 0) (q279 (vC cStr) (q279 (vC (cInt .i64)) (q279 (vRow 1) (q27b (vC cBool)))))) (q279 (q27g (bBox (q279 (vC (cInt .i64)) (q27b (vC (cInt .i64)))))) (q27b (q27g (bRow q26v)))) [false,false] [] (by decide) (fun _=>rfl)
def qgc:=oOrK 3 [5,6,7,8,36] qge (oAt 3 qgd) (fun x y=>.inr (st_ne 7 (by decide:(false:Bool)≠true)))
def qg9 (rest:ByteArray) (from_:Int) (out:Nat) (b0:Int) (b0_1:Int) (b1:(List ByteArray)):Option (((Unit × ByteArray × Int × Nat × Bool) × ((Int × Int) × (List ByteArray))) ⊕ ((Unit × ByteArray × Nat × Int × Bool) × ((Int × Int) × (List ByteArray)))):=lS Tryz.prog lv X0 92 70 (q270 (cdF Tryz.f92) 9) qgf qgc (((),rest,from_,out),((b0,b0_1),b1))
def qgg (rest:ByteArray) (from_:Int) (out:Nat) (b0:Int) (b0_1:Int) (b1:(List ByteArray)):Option (((Unit × ByteArray × Int × Nat × Bool) × ((Int × Int) × (List ByteArray))) ⊕ ((Unit × ByteArray × Nat × Int × Bool) × ((Int × Int) × (List ByteArray)))) :=
 (brE (decide ((rest.size:Int) > 78))
 (Option.bind (qhg rest from_) fun r0 =>
 (brE (r0==0)
 (gdE (EC.isL q26v (EC.encL q26v b1)) <|
 (some (.inr (((),(rest,(out,(r0,true)))),((b0,b0_1),(EC.decL q26v (EC.encL q26v b1)))))))
 (gdE ((decide (0≤r0))&&(decide (r0≤(rest.size:Int)))) <|
 (gdE ((((List.all [[(C.str (ByteArray.extract rest 0 (Int.toNat r0)))]] (fun (el:(List C))=>((List.length el)==1)))&&(List.all (EC.encL q26v b1) (fun (el:(List C))=>((List.length el)==1))))&&(decide (((((out+(List.length [[(C.str (ByteArray.extract rest 0 (Int.toNat r0)))]]))+((out+(List.length [[(C.str (ByteArray.extract rest 0 (Int.toNat r0)))]])) / 4))+192)*16)≤281474976710656)))&&(decide ((out+(List.length [[(C.str (ByteArray.extract rest 0 (Int.toNat r0)))]]))≤9223372036854775807))) <|
 (gdE ((decide (0≤r0))&&(decide (r0≤(rest.size:Int)))) <|
 (gdE (EC.isL q26v ((EC.encL q26v b1)++[[(C.str (ByteArray.extract rest 0 (Int.toNat r0)))]])) <|
 (qg9 (ByteArray.extract rest (Int.toNat r0) (ByteArray.size rest)) 0 (out+(List.length [[(C.str (ByteArray.extract rest 0 (Int.toNat r0)))]])) b0 b0_1 (EC.decL q26v ((EC.encL q26v b1)++[[(C.str (ByteArray.extract rest 0 (Int.toNat r0)))]])))))))))
 (gdE (EC.isL q26v (EC.encL q26v b1)) <|
 (some (.inl (((),(rest,(from_,(out,false)))),((b0,b0_1),(EC.decL q26v (EC.encL q26v b1))))))))
theorem qgb {rest} {from_} {out} {b0} {b0_1} {b1} {r} (h:qgg rest from_ out b0 b0_1 b1=some r):qg9 rest from_ out b0 b0_1 b1=some r :=
 qm5 (es:=q100) (hs:=[]) [] (by kernel_rfl) trivial trivial (by kernel_rfl) h
def qga:=q27d Tryz.prog lv X0 9 (q270 (cdF Tryz.f92) 9) qgf qgc (fun x=>qg9 x.1.2.1 x.1.2.2.1 x.1.2.2.2 x.2.1.1 x.2.1.2 x.2.2) (fun _ _ h=>qm4 h)
def qg7:=sLS [5,8,55,56,57] (q279 (vPtr 0 0) (q279 (vRow 1) (q279 (vRow 1) (q279 (vC (cInt .i64)) (q27b (vC (cInt .i64))))))) (q279 (q27g (bBox (q279 (vC (cInt .i64)) (q27b (vC (cInt .i64)))))) (q27b (q27g (bRow q26v)))) [false,false] [] (by decide) (fun _=>rfl)
def qg6:=sLS [5,8,55,56,57,58] (q279 (vPtr 0 0) (q279 (vRow 1) (q279 (vRow 1) (q279 (vC (cInt .i64)) (q279 (vC (cInt .i64)) (q27b (vC cBool))))))) (q279 (q27g (bBox (q279 (vC (cInt .i64)) (q27b (vC (cInt .i64)))))) (q27b (q27g (bRow q26v)))) [false,false] [] (by decide) (fun _=>rfl)
def qg5:=sLS [4,5] (q279 (vRow 0) (q27b (vPtr 1 0))) (q279 (q27g (bRow q26v)) (q27b (q27g (bBox (q279 (vC (cInt .i64)) (q27b (vC (cInt .i64)))))))) [false,false] [] (by decide) (fun _=>rfl)
def qg4:=oOr 1 qg5 (oAt 5 qg6) (fun x=>(by decide:(5:Nat)≠1))
def qg1 (out:Nat) (t55:Nat) (t56:Int) (t57:Int) (b0:Int) (b0_1:Int) (b1:(List ByteArray)):Option (((Nat × Unit) × ((List ByteArray) × (Int × Int))) ⊕ ((Unit × Nat × Nat × Int × Int × Bool) × ((Int × Int) × (List ByteArray)))):=lS Tryz.prog lv X0 92 70 (q270 (cdF Tryz.f92) 16) qg7 qg4 (((),out,t55,t56,t57),((b0,b0_1),b1))
def qg8 (out:Nat) (t55:Nat) (t56:Int) (t57:Int) (b0:Int) (b0_1:Int) (b1:(List ByteArray)):Option (((Nat × Unit) × ((List ByteArray) × (Int × Int))) ⊕ ((Unit × Nat × Nat × Int × Int × Bool) × ((Int × Int) × (List ByteArray)))) :=
 (brE (decide (t57<t56))
 (gdE ((decide (0≤t57))&&(decide (t57<((t55:Nat):Int)))) <|
 (gdE ((decide ((Int.toNat t57)<(List.length (EC.encL q26v b1))))&&((List.length (List.getD (EC.encL q26v b1) (Int.toNat t57) []))==1)) <|
 (gdE (isP [K1.str] 0 (List.getD (EC.encL q26v b1) (Int.toNat t57) [])) <|
 (brE (decide ((((ByteArray.size (q27s (List.getD (List.getD (EC.encL q26v b1) (Int.toNat t57) []) 0 C.ne))):Nat):Int) > 998))
 (Option.bind (q5d 1 t57) fun r0 =>
 (some (.inl ((0,()),((EC.decL q26v []),(r0.1,r0.2))))))
 (gdE (EC.isL q26v (EC.encL q26v b1)) <|
 (qg1 out t55 t56 (IntKind.wrap .i64 (t57+1)) b0 b0_1 (EC.decL q26v (EC.encL q26v b1))))))))
 (gdE (EC.isL q26v (EC.encL q26v b1)) <|
 (some (.inr (((),(out,(t55,(t56,(t57,false))))),((b0,b0_1),(EC.decL q26v (EC.encL q26v b1))))))))
theorem qg3 {out} {t55} {t56} {t57} {b0} {b0_1} {b1} {r} (h:qg8 out t55 t56 t57 b0 b0_1 b1=some r):qg1 out t55 t56 t57 b0 b0_1 b1=some r :=
 qm5 (es:=q100) (hs:=[]) [] (by kernel_rfl) trivial trivial (by kernel_rfl) h
def qg2:=q27d Tryz.prog lv X0 16 (q270 (cdF Tryz.f92) 16) qg7 qg4 (fun x=>qg1 x.1.2.1 x.1.2.2.1 x.1.2.2.2.1 x.1.2.2.2.2 x.2.1.1 x.2.1.2 x.2.2) (fun _ _ h=>qm4 h)
def qfy:Cod (V × List B) ((Nat × (Int × Int)) × (List ByteArray)):=(cPair (vTup (q279 (vRow 0) (q27b (vAgg (q279 (vC (cInt .i64)) (q27b (vC (cInt .i64)))))))) (q27b (bRow q26v)))
def qgh (n:ByteArray) (v:ByteArray):Option ((Nat × (Int × Int)) × (List ByteArray)):=fS Tryz.prog lv X0 92 qfx qfy (n,v)
def qgi (n:ByteArray) (v:ByteArray):Option ((Nat × (Int × Int)) × (List ByteArray)) :=
 (Option.bind (qh1 n) fun r0 =>
 (brE (!r0)
 (Option.bind (q5d 10 (-1)) fun r1 =>
 (some ((0,(r1.1,r1.2)),(EC.decL q26v []))))
 (brE (decide ((v.size:Int) > 4000))
 (Option.bind (q5d 1 (-1)) fun r1 =>
 (some ((0,(r1.1,r1.2)),(EC.decL q26v []))))
 (Option.bind (qhm v) fun r1 =>
 (brE (!r1)
 (Option.bind (q5d 11 (-1)) fun r2 =>
 (some ((0,(r2.1,r2.2)),(EC.decL q26v []))))
 (brE (decide (((((ByteArray.size n)+(ByteArray.size (ByteArray.mk (List.toArray [(58:UInt8),(32:UInt8)])))):Nat):Int) > (Go.IntKind.max Go.IntKind.i64)))
 none
 (brE (decide (((((ByteArray.size (n++(ByteArray.mk (List.toArray [(58:UInt8),(32:UInt8)]))))+(ByteArray.size v)):Nat):Int) > (Go.IntKind.max Go.IntKind.i64)))
 none
 (Option.bind (qg9 ((n++(ByteArray.mk (List.toArray [(58:UInt8),(32:UInt8)])))++v) (IntKind.wrap .i64 ((n.size:Int)+2)) 0 0 0 (EC.decL q26v [])) fun r2 =>
 (Sum.elim (fun r3=>(gdE ((((List.all [[(C.str r3.1.2.1)]] (fun (el:(List C))=>((List.length el)==1)))&&(List.all (EC.encL q26v r3.2.2) (fun (el:(List C))=>((List.length el)==1))))&&(decide (((((r3.1.2.2.2.1+(List.length [[(C.str r3.1.2.1)]]))+((r3.1.2.2.2.1+(List.length [[(C.str r3.1.2.1)]])) / 4))+192)*16)≤281474976710656)))&&(decide ((r3.1.2.2.2.1+(List.length [[(C.str r3.1.2.1)]]))≤9223372036854775807))) <|
 (gdE (EC.isL q26v ((EC.encL q26v r3.2.2)++[[(C.str r3.1.2.1)]])) <|
 (Option.bind (qg1 (r3.1.2.2.2.1+(List.length [[(C.str r3.1.2.1)]])) (r3.1.2.2.2.1+(List.length [[(C.str r3.1.2.1)]])) (((r3.1.2.2.2.1+(List.length [[(C.str r3.1.2.1)]])):Nat):Int) 0 r3.2.1.1 r3.2.1.2 (EC.decL q26v ((EC.encL q26v r3.2.2)++[[(C.str r3.1.2.1)]]))) fun r4 =>
 (Sum.elim (fun r5=>(gdE (EC.isL q26v (EC.encL q26v r5.2.1)) <|
 (some ((r5.1.1,(r5.2.2.1,r5.2.2.2)),(EC.decL q26v (EC.encL q26v r5.2.1))))))
 (fun r5=>(Option.bind q6e fun r6 =>
 (gdE (EC.isL q26v (EC.encL q26v r5.2.2)) <|
 (some ((r5.1.2.1,(r6.1,r6.2)),(EC.decL q26v (EC.encL q26v r5.2.2))))))) r4)))))
 (fun r3=>(gdE ((((List.all [[(C.str r3.1.2.1)]] (fun (el:(List C))=>((List.length el)==1)))&&(List.all (EC.encL q26v r3.2.2) (fun (el:(List C))=>((List.length el)==1))))&&(decide (((((r3.1.2.2.1+(List.length [[(C.str r3.1.2.1)]]))+((r3.1.2.2.1+(List.length [[(C.str r3.1.2.1)]])) / 4))+192)*16)≤281474976710656)))&&(decide ((r3.1.2.2.1+(List.length [[(C.str r3.1.2.1)]]))≤9223372036854775807))) <|
 (gdE (EC.isL q26v ((EC.encL q26v r3.2.2)++[[(C.str r3.1.2.1)]])) <|
 (Option.bind (qg1 (r3.1.2.2.1+(List.length [[(C.str r3.1.2.1)]])) (r3.1.2.2.1+(List.length [[(C.str r3.1.2.1)]])) (((r3.1.2.2.1+(List.length [[(C.str r3.1.2.1)]])):Nat):Int) 0 r3.2.1.1 r3.2.1.2 (EC.decL q26v ((EC.encL q26v r3.2.2)++[[(C.str r3.1.2.1)]]))) fun r4 =>
 (Sum.elim (fun r5=>(gdE (EC.isL q26v (EC.encL q26v r5.2.1)) <|
 (some ((r5.1.1,(r5.2.2.1,r5.2.2.2)),(EC.decL q26v (EC.encL q26v r5.2.1))))))
 (fun r5=>(Option.bind q6e fun r6 =>
 (gdE (EC.isL q26v (EC.encL q26v r5.2.2)) <|
 (some ((r5.1.2.1,(r6.1,r6.2)),(EC.decL q26v (EC.encL q26v r5.2.2))))))) r4))))) r2)))))))))
theorem qg0 {n} {v} {r} (h:qgi n v=some r):qgh n v=some r :=
 qf2 (es:=q100) (hs:=[]) [qga,qg2] Tryz.func92 rfl (by kernel_rfl) rfl (by kernel_rfl) (by kernel_rfl) ⟨⟨_,rfl,rfl⟩,⟨_,rfl,rfl⟩,trivial⟩ trivial (by kernel_rfl) h
def qfz:=entS Tryz.prog lv X0 92 [] qfx qfy (fun x=>qgh x.1 x.2) (fun _ _ h=>qf1 h)
def qzw:=qfz::q100
structure S55 where
 Name:ByteArray
 Value:ByteArray
def q26s:EC S55 where
 enc x:=[.str x.Name,.str x.Value]
 dec c:=⟨q27s (c.getD 0 .ne),q27s (c.getD 1 .ne)⟩
 is c:=isE [.str,.str] 0 c
 enc_dec h:=q8r h
 dec_enc x:=by rfl
 is_enc x:=by simp [isE,isK]
theorem enc_55 (x:S55):q26s.enc x=[.str x.Name,.str x.Value]:=rfl
theorem isE_55 (xs:List S55) (n:Nat):isE [.str,.str] 0 ((q26s.encL xs).getD n [])=decide (n<xs.length):=by
 by_cases h:n<xs.length
 ·simp only [EC.getD_lt _ _ h];simp [enc_55,isE,isK,h]
 ·simp only [EC.getD_ge _ _ (Nat.not_lt.1 h)];simp [isE,isK,h]
theorem q4e (xs:List S55) (n:Nat):q27s (((q26s.encL xs).getD n []).getD 0 .ne)=(xs.getD n (q26s.dec [])).Name:=by
 by_cases h:n<xs.length
 ·simp only [EC.getD_lt _ _ h];simp [enc_55,h,q27s,List.getD_eq_getElem?_getD]
 ·simp only [EC.getD_ge _ _ (Nat.not_lt.1 h)];simp [Nat.not_lt.1 h,q26s,q27s,List.getD_eq_getElem?_getD]
theorem q4f (xs:List S55) (n:Nat):q27s (((q26s.encL xs).getD n []).getD 1 .ne)=(xs.getD n (q26s.dec [])).Value:=by
 by_cases h:n<xs.length
 ·simp only [EC.getD_lt _ _ h];simp [enc_55,h,q27s,List.getD_eq_getElem?_getD]
 ·simp only [EC.getD_ge _ _ (Nat.not_lt.1 h)];simp [Nat.not_lt.1 h,q26s,q27s,List.getD_eq_getElem?_getD]
def qjh:=(q27b (vC (cSl q26s)))
def qjr:=sLS [2,11,12,13] (q279 (vPtr 0 0) (q279 (vC (cSl q26s)) (q279 (vC (cInt .i64)) (q27b (vC (cInt .i64)))))) (q27b (q27g (bBox (q279 (vC (cInt .i64)) (q27b (vC (cInt .i64))))))) [false] [] (by decide) (fun _=>rfl)
def qjq:=sLS [2,11,12,13,14] (q279 (vPtr 0 0) (q279 (vC (cSl q26s)) (q279 (vC (cInt .i64)) (q279 (vC (cInt .i64)) (q27b (vC cBool)))))) (q27b (q27g (bBox (q279 (vC (cInt .i64)) (q27b (vC (cInt .i64))))))) [false] [] (by decide) (fun _=>rfl)
def qjp:=sLS [2] (q27b (vPtr 0 0)) (q27b (q27g (bBox (q279 (vC (cInt .i64)) (q27b (vC (cInt .i64))))))) [false] [] (by decide) (fun _=>rfl)
def qjo:=oOr 1 qjp (oAt 2 qjq) (fun x=>(by decide:(2:Nat)≠1))
def qjl (t11:(List S55)) (t12:Int) (t13:Int) (b0:Int) (b0_1:Int):Option ((Unit × (Int × Int)) ⊕ ((Unit × (List S55) × Int × Int × Bool) × (Int × Int))):=lS Tryz.prog lv X0 90 34 (q270 (cdF Tryz.f90) 4) qjr qjo (((),t11,t12,t13),(b0,b0_1))
def qjs (t11:(List S55)) (t12:Int) (t13:Int) (b0:Int) (b0_1:Int):Option ((Unit × (Int × Int)) ⊕ ((Unit × (List S55) × Int × Int × Bool) × (Int × Int))) :=
 (brE (decide (t13<t12))
 (gdE (decide (0≤t13)) <|
 (gdE ((decide ((Int.toNat t13)<(List.length (EC.encL q26s t11))))&&(isE [K1.str,K1.str] 0 (List.getD (EC.encL q26s t11) (Int.toNat t13) []))) <|
 (Option.bind (qgh (q27s (List.getD (List.getD (EC.encL q26s t11) (Int.toNat t13) []) 0 C.ne)) (q27s (List.getD (List.getD (EC.encL q26s t11) (Int.toNat t13) []) 1 C.ne))) fun r0 =>
 (Option.bind (q57 r0.1.2.1 r0.1.2.2) fun r1 =>
 (brE r1
 (Option.bind (q5d r0.1.2.1 t13) fun r2 =>
 (some (.inl ((),(r2.1,r2.2)))))
 (gdE (EC.isL q26s (EC.encL q26s t11)) <|
 (qjl (EC.decL q26s (EC.encL q26s t11)) t12 (IntKind.wrap .i64 (t13+1)) b0 b0_1)))))))
 (gdE (EC.isL q26s (EC.encL q26s t11)) <|
 (some (.inr (((),((EC.decL q26s (EC.encL q26s t11)),(t12,(t13,false)))),(b0,b0_1))))))
theorem qjn {t11} {t12} {t13} {b0} {b0_1} {r} (h:qjs t11 t12 t13 b0 b0_1=some r):qjl t11 t12 t13 b0 b0_1=some r :=
 qm5 (es:=qzw) (hs:=[]) [] (by kernel_rfl) trivial trivial (by kernel_rfl) h
def qjm:=q27d Tryz.prog lv X0 4 (q270 (cdF Tryz.f90) 4) qjr qjo (fun x=>qjl x.1.2.1 x.1.2.2.1 x.1.2.2.2 x.2.1 x.2.2) (fun _ _ h=>qm4 h)
def qji:Cod (V × List B) (Int × Int):=(cFstU (cPair (vAgg (q279 (vC (cInt .i64)) (q27b (vC (cInt .i64))))) q27a))
def qjt (l:(List S55)):Option (Int × Int):=fS Tryz.prog lv X0 90 qjh qji l
def qju (l:(List S55)):Option (Int × Int) :=
 (brE (decide ((List.length (EC.encL q26s l):Int) > 60))
 (Option.bind (q5d 2 (-1)) fun r0 =>
 (some (r0.1,r0.2)))
 (gdE (EC.isL q26s (EC.encL q26s l)) <|
 (Option.bind (qjl (EC.decL q26s (EC.encL q26s l)) (List.length (EC.encL q26s l):Int) 0 0 0) fun r0 =>
 (Sum.elim (fun r1=>(some (r1.2.1,r1.2.2)))
 (fun r1=>(Option.bind q6e fun r2 =>
 (some (r2.1,r2.2)))) r0))))
theorem qjk {l} {r} (h:qju l=some r):qjt l=some r :=
 qf2 (es:=qzw) (hs:=[]) [qjm] Tryz.func90 rfl (by kernel_rfl) rfl (by kernel_rfl) (by kernel_rfl) ⟨⟨_,rfl,rfl⟩,trivial⟩ trivial (by kernel_rfl) h
def qjj:=entS Tryz.prog lv X0 90 [] qjh qji (fun x=>qjt x) (fun _ _ h=>qf1 h)
def q104:=qjj::qzw
def qjv:=(q27b (vC cStr))
def qjw:Cod (V × List B) Bool:=(cFstU (cPair (vC cBool) q27a))
def qjz (s:ByteArray):Option Bool:=fS Tryz.prog lv X0 167 qjv qjw s
def qk0 (s:ByteArray):Option Bool :=
 (Option.bind (qgh s ⟨#[]⟩) fun r0 =>
 (Option.bind (q57 r0.1.2.1 r0.1.2.2) fun r1 =>
 (some (!r1))))
theorem qjy {s} {r} (h:qk0 s=some r):qjz s=some r :=
 qf2 (es:=q104) (hs:=[]) [] Tryz.func167 rfl (by kernel_rfl) rfl (by kernel_rfl) (by kernel_rfl) trivial trivial (by kernel_rfl) h
def qjx:=entS Tryz.prog lv X0 167 [] qjv qjw (fun x=>qjz x) (fun _ _ h=>qf1 h)
def q105:=qjx::q104
def qk1:=(q279 (vC (cSl q26s)) (q27b (vC cStr)))
def qk2:Cod (V × List B) (Int × Int):=(cFstU (cPair (vAgg (q279 (vC (cInt .i64)) (q27b (vC (cInt .i64))))) q27a))
def qk5 (l:(List S55)) (n:ByteArray):Option (Int × Int):=fS Tryz.prog lv X0 157 qk1 qk2 (l,n)
def qk6 (l:(List S55)) (n:ByteArray):Option (Int × Int) :=
 (gdE (EC.isL q26s (EC.encL q26s l)) <|
 (Option.bind (qjt (EC.decL q26s (EC.encL q26s l))) fun r0 =>
 (Option.bind (q57 r0.1 r0.2) fun r1 =>
 (brE r1
 (some (r0.1,r0.2))
 (Option.bind (qjz n) fun r2 =>
 (brE (!r2)
 (Option.bind (q5d 10 (-3)) fun r3 =>
 (some (r3.1,r3.2)))
 (Option.bind q6e fun r3 =>
 (some (r3.1,r3.2)))))))))
theorem qk4 {l} {n} {r} (h:qk6 l n=some r):qk5 l n=some r :=
 qf2 (es:=q105) (hs:=[]) [] Tryz.func157 rfl (by kernel_rfl) rfl (by kernel_rfl) (by kernel_rfl) trivial trivial (by kernel_rfl) h
def qk3:=entS Tryz.prog lv X0 157 [] qk1 qk2 (fun x=>qk5 x.1 x.2) (fun _ _ h=>qf1 h)
def q106:=qk3::q105
def qj4:=(q279 (vC (cSl q26s)) (q27b (vC cStr)))
def qjd:=sLS [1,5,7,16,17,18] (q279 (vC cStr) (q279 (vPtr 0 0) (q279 (vRow 1) (q279 (vC (cSl q26s)) (q279 (vC (cInt .i64)) (q27b (vC (cInt .i64)))))))) (q279 (q27g (bBox (q279 (vC (cInt .i64)) (q27b (vC (cInt .i64)))))) (q27b (q27g (bRow q26v)))) [false,false] [] (by decide) (fun _=>rfl)
def qjc:=sLS [1,5,7,16,17,18,19] (q279 (vC cStr) (q279 (vPtr 0 0) (q279 (vRow 1) (q279 (vC (cSl q26s)) (q279 (vC (cInt .i64)) (q279 (vC (cInt .i64)) (q27b (vC cBool)))))))) (q279 (q27g (bBox (q279 (vC (cInt .i64)) (q27b (vC (cInt .i64)))))) (q27b (q27g (bRow q26v)))) [false,false] [] (by decide) (fun _=>rfl)
def qjb:=oAt 2 qjc
def qj8 (n:ByteArray) (out:Nat) (t16:(List S55)) (t17:Int) (t18:Int) (b0:Int) (b0_1:Int) (b1:(List ByteArray)):Option ((ByteArray × Unit × Nat × (List S55) × Int × Int × Bool) × ((Int × Int) × (List ByteArray))):=lS Tryz.prog lv X0 135 34 (q270 (cdF Tryz.f135) 6) qjd qjb ((n,(),out,t16,t17,t18),((b0,b0_1),b1))
def qje (n:ByteArray) (out:Nat) (t16:(List S55)) (t17:Int) (t18:Int) (b0:Int) (b0_1:Int) (b1:(List ByteArray)):Option ((ByteArray × Unit × Nat × (List S55) × Int × Int × Bool) × ((Int × Int) × (List ByteArray))) :=
 (brE (decide (t18<t17))
 (gdE (decide (0≤t18)) <|
 (gdE ((decide ((Int.toNat t18)<(List.length (EC.encL q26s t16))))&&(isE [K1.str,K1.str] 0 (List.getD (EC.encL q26s t16) (Int.toNat t18) []))) <|
 (Option.bind (q6k (q27s (List.getD (List.getD (EC.encL q26s t16) (Int.toNat t18) []) 0 C.ne)) n) fun r0 =>
 (brE r0
 (gdE ((((List.all [[(C.str (q27s (List.getD (List.getD (EC.encL q26s t16) (Int.toNat t18) []) 1 C.ne)))]] (fun (el:(List C))=>((List.length el)==1)))&&(List.all (EC.encL q26v b1) (fun (el:(List C))=>((List.length el)==1))))&&(decide (((((out+(List.length [[(C.str (q27s (List.getD (List.getD (EC.encL q26s t16) (Int.toNat t18) []) 1 C.ne)))]]))+((out+(List.length [[(C.str (q27s (List.getD (List.getD (EC.encL q26s t16) (Int.toNat t18) []) 1 C.ne)))]])) / 4))+192)*16)≤281474976710656)))&&(decide ((out+(List.length [[(C.str (q27s (List.getD (List.getD (EC.encL q26s t16) (Int.toNat t18) []) 1 C.ne)))]]))≤9223372036854775807))) <|
 (gdE (EC.isL q26s (EC.encL q26s t16)) <|
 (gdE (EC.isL q26v ((EC.encL q26v b1)++[[(C.str (q27s (List.getD (List.getD (EC.encL q26s t16) (Int.toNat t18) []) 1 C.ne)))]])) <|
 (qj8 n (out+(List.length [[(C.str (q27s (List.getD (List.getD (EC.encL q26s t16) (Int.toNat t18) []) 1 C.ne)))]])) (EC.decL q26s (EC.encL q26s t16)) t17 (IntKind.wrap .i64 (t18+1)) b0 b0_1 (EC.decL q26v ((EC.encL q26v b1)++[[(C.str (q27s (List.getD (List.getD (EC.encL q26s t16) (Int.toNat t18) []) 1 C.ne)))]]))))))
 (gdE (EC.isL q26s (EC.encL q26s t16)) <|
 (gdE (EC.isL q26v (EC.encL q26v b1)) <|
 (qj8 n out (EC.decL q26s (EC.encL q26s t16)) t17 (IntKind.wrap .i64 (t18+1)) b0 b0_1 (EC.decL q26v (EC.encL q26v b1)))))))))
 (gdE (EC.isL q26s (EC.encL q26s t16)) <|
 (gdE (EC.isL q26v (EC.encL q26v b1)) <|
 (some ((n,((),(out,((EC.decL q26s (EC.encL q26s t16)),(t17,(t18,false)))))),((b0,b0_1),(EC.decL q26v (EC.encL q26v b1))))))))
theorem qja {n} {out} {t16} {t17} {t18} {b0} {b0_1} {b1} {r} (h:qje n out t16 t17 t18 b0 b0_1 b1=some r):qj8 n out t16 t17 t18 b0 b0_1 b1=some r :=
 qm5 (es:=q106) (hs:=[]) [] (by kernel_rfl) trivial trivial (by kernel_rfl) h
def qj9:=q27d Tryz.prog lv X0 6 (q270 (cdF Tryz.f135) 6) qjd qjb (fun x=>qj8 x.1.1 x.1.2.2.1 x.1.2.2.2.1 x.1.2.2.2.2.1 x.1.2.2.2.2.2 x.2.1.1 x.2.1.2 x.2.2) (fun _ _ h=>qm4 h)
def qj5:Cod (V × List B) ((Nat × (Int × Int)) × (List ByteArray)):=(cPair (vTup (q279 (vRow 0) (q27b (vAgg (q279 (vC (cInt .i64)) (q27b (vC (cInt .i64)))))))) (q27b (bRow q26v)))
def qjf (l:(List S55)) (n:ByteArray):Option ((Nat × (Int × Int)) × (List ByteArray)):=fS Tryz.prog lv X0 135 qj4 qj5 (l,n)
def qjg (l:(List S55)) (n:ByteArray):Option ((Nat × (Int × Int)) × (List ByteArray)) :=
 (gdE (EC.isL q26s (EC.encL q26s l)) <|
 (Option.bind (qk5 (EC.decL q26s (EC.encL q26s l)) n) fun r0 =>
 (Option.bind (q57 r0.1 r0.2) fun r1 =>
 (brE r1
 (some ((0,(r0.1,r0.2)),(EC.decL q26v [])))
 (gdE (EC.isL q26s (EC.encL q26s l)) <|
 (Option.bind (qj8 n 0 (EC.decL q26s (EC.encL q26s l)) (List.length (EC.encL q26s l):Int) 0 0 0 (EC.decL q26v [])) fun r2 =>
 (Option.bind q6e fun r3 =>
 (gdE (EC.isL q26v (EC.encL q26v r2.2.2)) <|
 (some ((r2.1.2.2.1,(r3.1,r3.2)),(EC.decL q26v (EC.encL q26v r2.2.2))))))))))))
theorem qj7 {l} {n} {r} (h:qjg l n=some r):qjf l n=some r :=
 qf2 (es:=q106) (hs:=[]) [qj9] Tryz.func135 rfl (by kernel_rfl) rfl (by kernel_rfl) (by kernel_rfl) ⟨⟨_,rfl,rfl⟩,trivial⟩ trivial (by kernel_rfl) h
def qj6:=entS Tryz.prog lv X0 135 [] qj4 qj5 (fun x=>qjf x.1 x.2) (fun _ _ h=>qf1 h)
def q103:=qj6::q106
def qo3:=(q27b (vAgg (q279 (vC (cSl q26s)) (q27b (vC (cSl q26q))))))
def qoj:=sLS [1,3,11,12,13,25,26,27] (q279 (vPtr 0 0) (q279 (vRow 1) (q279 (vC (cSl q26s)) (q279 (vC (cInt .i64)) (q279 (vC (cInt .i64)) (q279 (vRow 2) (q279 (vC (cInt .i64)) (q27b (vC (cInt .i64)))))))))) (q279 (q27g (bBox (q279 (vC (cSl q26s)) (q27b (vC (cSl q26q)))))) (q279 (q27g (bRow q26q)) (q27b (q27g (bRow q26v))))) [false,false,false] [] (by decide) (fun _=>rfl)
def qoi:=sLS [1,3,11,12,13,25,26,27,28] (q279 (vPtr 0 0) (q279 (vRow 1) (q279 (vC (cSl q26s)) (q279 (vC (cInt .i64)) (q279 (vC (cInt .i64)) (q279 (vRow 2) (q279 (vC (cInt .i64)) (q279 (vC (cInt .i64)) (q27b (vC cBool)))))))))) (q279 (q27g (bBox (q279 (vC (cSl q26s)) (q27b (vC (cSl q26q)))))) (q279 (q27g (bRow q26q)) (q27b (q27g (bRow q26v))))) [false,false,false] [] (by decide) (fun _=>rfl)
def qoh:=oAt 4 qoi
def qoe (out:Nat) (t11:(List S55)) (t12:Int) (t13:Int) (t25:Nat) (t26:Int) (t27:Int) (b0:(List S55)) (b0_1:(List Int)) (b1:(List Int)) (b2:(List ByteArray)):Option ((Unit × Nat × (List S55) × Int × Int × Nat × Int × Int × Bool) × (((List S55) × (List Int)) × (List Int) × (List ByteArray))):=lS Tryz.prog lv X0 67 44 (q270 (cdF Tryz.f67) 7) qoj qoh (((),out,t11,t12,t13,t25,t26,t27),((b0,b0_1),b1,b2))
def qok (out:Nat) (t11:(List S55)) (t12:Int) (t13:Int) (t25:Nat) (t26:Int) (t27:Int) (b0:(List S55)) (b0_1:(List Int)) (b1:(List Int)) (b2:(List ByteArray)):Option ((Unit × Nat × (List S55) × Int × Int × Nat × Int × Int × Bool) × (((List S55) × (List Int)) × (List Int) × (List ByteArray))) :=
 (brE (decide (t27<t26))
 (gdE ((decide (0≤t27))&&(decide (t27<((t25:Nat):Int)))) <|
 (gdE ((decide ((Int.toNat t27)<(List.length (EC.encL q26v b2))))&&((List.length (List.getD (EC.encL q26v b2) (Int.toNat t27) []))==1)) <|
 (gdE (isP [K1.str] 0 (List.getD (EC.encL q26v b2) (Int.toNat t27) [])) <|
 (gdE ((((List.all (List.map (fun (b:UInt8)=>[(byteC b)]) (Array.toList (ByteArray.data (q27s (List.getD (List.getD (EC.encL q26v b2) (Int.toNat t27) []) 0 C.ne))))) (fun (el:(List C))=>((List.length el)==1)))&&(List.all (EC.encL q26q b1) (fun (el:(List C))=>((List.length el)==1))))&&(decide (((((out+(List.length (List.map (fun (b:UInt8)=>[(byteC b)]) (Array.toList (ByteArray.data (q27s (List.getD (List.getD (EC.encL q26v b2) (Int.toNat t27) []) 0 C.ne)))))))+((out+(List.length (List.map (fun (b:UInt8)=>[(byteC b)]) (Array.toList (ByteArray.data (q27s (List.getD (List.getD (EC.encL q26v b2) (Int.toNat t27) []) 0 C.ne))))))) / 4))+192)*1)≤281474976710656)))&&(decide ((out+(List.length (List.map (fun (b:UInt8)=>[(byteC b)]) (Array.toList (ByteArray.data (q27s (List.getD (List.getD (EC.encL q26v b2) (Int.toNat t27) []) 0 C.ne)))))))≤9223372036854775807))) <|
 (gdE ((((List.all [[(C.int Go.IntKind.u8 13)],[(C.int Go.IntKind.u8 10)]] (fun (el:(List C))=>((List.length el)==1)))&&(List.all ((EC.encL q26q b1)++(List.map (fun (b:UInt8)=>[(byteC b)]) (Array.toList (ByteArray.data (q27s (List.getD (List.getD (EC.encL q26v b2) (Int.toNat t27) []) 0 C.ne)))))) (fun (el:(List C))=>((List.length el)==1))))&&(decide ((((((out+(List.length (List.map (fun (b:UInt8)=>[(byteC b)]) (Array.toList (ByteArray.data (q27s (List.getD (List.getD (EC.encL q26v b2) (Int.toNat t27) []) 0 C.ne)))))))+(List.length [[(C.int Go.IntKind.u8 13)],[(C.int Go.IntKind.u8 10)]]))+(((out+(List.length (List.map (fun (b:UInt8)=>[(byteC b)]) (Array.toList (ByteArray.data (q27s (List.getD (List.getD (EC.encL q26v b2) (Int.toNat t27) []) 0 C.ne)))))))+(List.length [[(C.int Go.IntKind.u8 13)],[(C.int Go.IntKind.u8 10)]])) / 4))+192)*1)≤281474976710656)))&&(decide (((out+(List.length (List.map (fun (b:UInt8)=>[(byteC b)]) (Array.toList (ByteArray.data (q27s (List.getD (List.getD (EC.encL q26v b2) (Int.toNat t27) []) 0 C.ne)))))))+(List.length [[(C.int Go.IntKind.u8 13)],[(C.int Go.IntKind.u8 10)]]))≤9223372036854775807))) <|
 (gdE (EC.isL q26s (EC.encL q26s t11)) <|
 (gdE (EC.isL q26s (EC.encL q26s b0)) <|
 (gdE (EC.isL q26q (EC.encL q26q b0_1)) <|
 (gdE (EC.isL q26q (((EC.encL q26q b1)++(List.map (fun (b:UInt8)=>[(byteC b)]) (Array.toList (ByteArray.data (q27s (List.getD (List.getD (EC.encL q26v b2) (Int.toNat t27) []) 0 C.ne))))))++[[(C.int Go.IntKind.u8 13)],[(C.int Go.IntKind.u8 10)]])) <|
 (gdE (EC.isL q26v (EC.encL q26v b2)) <|
 (qoe ((out+(List.length (List.map (fun (b:UInt8)=>[(byteC b)]) (Array.toList (ByteArray.data (q27s (List.getD (List.getD (EC.encL q26v b2) (Int.toNat t27) []) 0 C.ne)))))))+(List.length [[(C.int Go.IntKind.u8 13)],[(C.int Go.IntKind.u8 10)]])) (EC.decL q26s (EC.encL q26s t11)) t12 t13 t25 t26 (IntKind.wrap .i64 (t27+1)) (EC.decL q26s (EC.encL q26s b0)) (EC.decL q26q (EC.encL q26q b0_1)) (EC.decL q26q (((EC.encL q26q b1)++(List.map (fun (b:UInt8)=>[(byteC b)]) (Array.toList (ByteArray.data (q27s (List.getD (List.getD (EC.encL q26v b2) (Int.toNat t27) []) 0 C.ne))))))++[[(C.int Go.IntKind.u8 13)],[(C.int Go.IntKind.u8 10)]])) (EC.decL q26v (EC.encL q26v b2)))))))))))))
 (gdE (EC.isL q26s (EC.encL q26s t11)) <|
 (gdE (EC.isL q26s (EC.encL q26s b0)) <|
 (gdE (EC.isL q26q (EC.encL q26q b0_1)) <|
 (gdE (EC.isL q26q (EC.encL q26q b1)) <|
 (gdE (EC.isL q26v (EC.encL q26v b2)) <|
 (some (((),(out,((EC.decL q26s (EC.encL q26s t11)),(t12,(t13,(t25,(t26,(t27,false)))))))),(((EC.decL q26s (EC.encL q26s b0)),(EC.decL q26q (EC.encL q26q b0_1))),((EC.decL q26q (EC.encL q26q b1)),(EC.decL q26v (EC.encL q26v b2))))))))))))
theorem qog {out} {t11} {t12} {t13} {t25} {t26} {t27} {b0} {b0_1} {b1} {b2} {r} (h:qok out t11 t12 t13 t25 t26 t27 b0 b0_1 b1 b2=some r):qoe out t11 t12 t13 t25 t26 t27 b0 b0_1 b1 b2=some r :=
 qm5 (es:=q103) (hs:=[]) [] (by kernel_rfl) trivial trivial (by kernel_rfl) h
def qof:=q27d Tryz.prog lv X0 7 (q270 (cdF Tryz.f67) 7) qoj qoh (fun x=>qoe x.1.2.1 x.1.2.2.1 x.1.2.2.2.1 x.1.2.2.2.2.1 x.1.2.2.2.2.2.1 x.1.2.2.2.2.2.2.1 x.1.2.2.2.2.2.2.2 x.2.1.1 x.2.1.2 x.2.2.1 x.2.2.2) (fun _ _ h=>qm4 h)
def qoc:=sLS [1,3,11,12,13] (q279 (vPtr 0 0) (q279 (vRow 1) (q279 (vC (cSl q26s)) (q279 (vC (cInt .i64)) (q27b (vC (cInt .i64))))))) (q279 (q27g (bBox (q279 (vC (cSl q26s)) (q27b (vC (cSl q26q)))))) (q27b (q27g (bRow q26q)))) [false,false] [] (by decide) (fun _=>rfl)
def qob:=sLS [1,3,11,12,13,14] (q279 (vPtr 0 0) (q279 (vRow 1) (q279 (vC (cSl q26s)) (q279 (vC (cInt .i64)) (q279 (vC (cInt .i64)) (q27b (vC cBool))))))) (q279 (q27g (bBox (q279 (vC (cSl q26s)) (q27b (vC (cSl q26q)))))) (q27b (q27g (bRow q26q)))) [false,false] [] (by decide) (fun _=>rfl)
def qoa:=oAt 2 qob
def qo7 (out:Nat) (t11:(List S55)) (t12:Int) (t13:Int) (b0:(List S55)) (b0_1:(List Int)) (b1:(List Int)):Option ((Unit × Nat × (List S55) × Int × Int × Bool) × (((List S55) × (List Int)) × (List Int))):=lS Tryz.prog lv X0 67 44 (q270 (cdF Tryz.f67) 3) qoc qoa (((),out,t11,t12,t13),((b0,b0_1),b1))
def qod (out:Nat) (t11:(List S55)) (t12:Int) (t13:Int) (b0:(List S55)) (b0_1:(List Int)) (b1:(List Int)):Option ((Unit × Nat × (List S55) × Int × Int × Bool) × (((List S55) × (List Int)) × (List Int))) :=
 (brE (decide (t13<t12))
 (gdE (decide (0≤t13)) <|
 (gdE ((decide ((Int.toNat t13)<(List.length (EC.encL q26s t11))))&&(isE [K1.str,K1.str] 0 (List.getD (EC.encL q26s t11) (Int.toNat t13) []))) <|
 (Option.bind (qgh (q27s (List.getD (List.getD (EC.encL q26s t11) (Int.toNat t13) []) 0 C.ne)) (q27s (List.getD (List.getD (EC.encL q26s t11) (Int.toNat t13) []) 1 C.ne))) fun r0 =>
 (gdE (EC.isL q26s (EC.encL q26s t11)) <|
 (gdE (EC.isL q26s (EC.encL q26s b0)) <|
 (gdE (EC.isL q26q (EC.encL q26q b0_1)) <|
 (gdE (EC.isL q26q (EC.encL q26q b1)) <|
 (gdE (EC.isL q26v (EC.encL q26v r0.2)) <|
 (Option.bind (qoe out (EC.decL q26s (EC.encL q26s t11)) t12 t13 r0.1.1 ((r0.1.1:Nat):Int) 0 (EC.decL q26s (EC.encL q26s b0)) (EC.decL q26q (EC.encL q26q b0_1)) (EC.decL q26q (EC.encL q26q b1)) (EC.decL q26v (EC.encL q26v r0.2))) fun r1 =>
 (gdE (EC.isL q26s (EC.encL q26s r1.1.2.2.1)) <|
 (gdE (EC.isL q26s (EC.encL q26s r1.2.1.1)) <|
 (gdE (EC.isL q26q (EC.encL q26q r1.2.1.2)) <|
 (gdE (EC.isL q26q (EC.encL q26q r1.2.2.1)) <|
 (qo7 r1.1.2.1 (EC.decL q26s (EC.encL q26s r1.1.2.2.1)) r1.1.2.2.2.1 (IntKind.wrap .i64 (r1.1.2.2.2.2.1+1)) (EC.decL q26s (EC.encL q26s r1.2.1.1)) (EC.decL q26q (EC.encL q26q r1.2.1.2)) (EC.decL q26q (EC.encL q26q r1.2.2.1))))))))))))))))
 (gdE (EC.isL q26s (EC.encL q26s t11)) <|
 (gdE (EC.isL q26s (EC.encL q26s b0)) <|
 (gdE (EC.isL q26q (EC.encL q26q b0_1)) <|
 (gdE (EC.isL q26q (EC.encL q26q b1)) <|
 (some (((),(out,((EC.decL q26s (EC.encL q26s t11)),(t12,(t13,false))))),(((EC.decL q26s (EC.encL q26s b0)),(EC.decL q26q (EC.encL q26q b0_1))),(EC.decL q26q (EC.encL q26q b1))))))))))
theorem qo9 {out} {t11} {t12} {t13} {b0} {b0_1} {b1} {r} (h:qod out t11 t12 t13 b0 b0_1 b1=some r):qo7 out t11 t12 t13 b0 b0_1 b1=some r :=
 qm5 (es:=q103) (hs:=[]) [qof] (by kernel_rfl) ⟨⟨_,rfl,rfl⟩,trivial⟩ trivial (by kernel_rfl) h
def qo8:=q27d Tryz.prog lv X0 3 (q270 (cdF Tryz.f67) 3) qoc qoa (fun x=>qo7 x.1.2.1 x.1.2.2.1 x.1.2.2.2.1 x.1.2.2.2.2 x.2.1.1 x.2.1.2 x.2.2) (fun _ _ h=>qm4 h)
def qo4:Cod (V × List B) (Nat × (List Int)):=(cPair (vRow 0) (q27b (bRow q26q)))
def qol (m_Fields:(List S55)) (m_Body:(List Int)):Option (Nat × (List Int)):=fS Tryz.prog lv X0 67 qo3 qo4 (m_Fields,m_Body)
def qom (m_Fields:(List S55)) (m_Body:(List Int)):Option (Nat × (List Int)) :=
 (gdE (EC.isL q26s (EC.encL q26s m_Fields)) <|
 (gdE (EC.isL q26s (EC.encL q26s m_Fields)) <|
 (gdE (EC.isL q26q (EC.encL q26q m_Body)) <|
 (Option.bind (qo7 0 (EC.decL q26s (EC.encL q26s m_Fields)) (List.length (EC.encL q26s m_Fields):Int) 0 (EC.decL q26s (EC.encL q26s m_Fields)) (EC.decL q26q (EC.encL q26q m_Body)) (EC.decL q26q [])) fun r0 =>
 (gdE ((((List.all [[(C.int Go.IntKind.u8 13)],[(C.int Go.IntKind.u8 10)]] (fun (el:(List C))=>((List.length el)==1)))&&(List.all (EC.encL q26q r0.2.2) (fun (el:(List C))=>((List.length el)==1))))&&(decide (((((r0.1.2.1+(List.length [[(C.int Go.IntKind.u8 13)],[(C.int Go.IntKind.u8 10)]]))+((r0.1.2.1+(List.length [[(C.int Go.IntKind.u8 13)],[(C.int Go.IntKind.u8 10)]])) / 4))+192)*1)≤281474976710656)))&&(decide ((r0.1.2.1+(List.length [[(C.int Go.IntKind.u8 13)],[(C.int Go.IntKind.u8 10)]]))≤9223372036854775807))) <|
 (gdE ((((List.all (EC.encL q26q r0.2.1.2) (fun (el:(List C))=>((List.length el)==1)))&&(List.all ((EC.encL q26q r0.2.2)++[[(C.int Go.IntKind.u8 13)],[(C.int Go.IntKind.u8 10)]]) (fun (el:(List C))=>((List.length el)==1))))&&(decide ((((((r0.1.2.1+(List.length [[(C.int Go.IntKind.u8 13)],[(C.int Go.IntKind.u8 10)]]))+(List.length (EC.encL q26q r0.2.1.2)))+(((r0.1.2.1+(List.length [[(C.int Go.IntKind.u8 13)],[(C.int Go.IntKind.u8 10)]]))+(List.length (EC.encL q26q r0.2.1.2))) / 4))+192)*1)≤281474976710656)))&&(decide (((r0.1.2.1+(List.length [[(C.int Go.IntKind.u8 13)],[(C.int Go.IntKind.u8 10)]]))+(List.length (EC.encL q26q r0.2.1.2)))≤9223372036854775807))) <|
 (gdE (EC.isL q26q (((EC.encL q26q r0.2.2)++[[(C.int Go.IntKind.u8 13)],[(C.int Go.IntKind.u8 10)]])++(EC.encL q26q r0.2.1.2))) <|
 (some (((r0.1.2.1+(List.length [[(C.int Go.IntKind.u8 13)],[(C.int Go.IntKind.u8 10)]]))+(List.length (EC.encL q26q r0.2.1.2))),(EC.decL q26q (((EC.encL q26q r0.2.2)++[[(C.int Go.IntKind.u8 13)],[(C.int Go.IntKind.u8 10)]])++(EC.encL q26q r0.2.1.2))))))))))))
theorem qo6 {m_Fields} {m_Body} {r} (h:qom m_Fields m_Body=some r):qol m_Fields m_Body=some r :=
 qf2 (es:=q103) (hs:=[]) [qo8] Tryz.func67 rfl (by kernel_rfl) rfl (by kernel_rfl) (by kernel_rfl) ⟨⟨_,rfl,rfl⟩,trivial⟩ trivial (by kernel_rfl) h
def qo5:=entS Tryz.prog lv X0 67 [] qo3 qo4 (fun x=>qol x.1 x.2) (fun _ _ h=>qf1 h)
def q10b:=qo5::q103
def qnx:=(q27b (vC (cSl q26q)))
def qny:Cod (V × List B) (Int × Int):=(cFstU (cPair (vAgg (q279 (vC (cInt .i64)) (q27b (vC (cInt .i64))))) q27a))
def qo1 (b:(List Int)):Option (Int × Int):=fS Tryz.prog lv X0 91 qnx qny b
def qo2 (b:(List Int)):Option (Int × Int) :=
 (gdE (EC.isL q26q (EC.encL q26q b)) <|
 (Option.bind (q51 (EC.decL q26q (EC.encL q26q b))) fun r0 =>
 (brE (r0==11)
 (Option.bind (q5d 11 (-5)) fun r1 =>
 (some (r1.1,r1.2)))
 (brE (r0==1)
 (Option.bind (q5d 1 (-6)) fun r1 =>
 (some (r1.1,r1.2)))
 (Option.bind q6e fun r1 =>
 (some (r1.1,r1.2)))))))
theorem qo0 {b} {r} (h:qo2 b=some r):qo1 b=some r :=
 qf2 (es:=q10b) (hs:=[]) [] Tryz.func91 rfl (by kernel_rfl) rfl (by kernel_rfl) (by kernel_rfl) trivial trivial (by kernel_rfl) h
def qnz:=entS Tryz.prog lv X0 91 [] qnx qny (fun x=>qo1 x) (fun _ _ h=>qf1 h)
def q10a:=qnz::q10b
def qnl:=(q27b (vAgg (q279 (vC (cSl q26s)) (q27b (vC (cSl q26q))))))
def qnm:Cod (V × List B) (Int × Int):=(cFstU (cPair (vAgg (q279 (vC (cInt .i64)) (q27b (vC (cInt .i64))))) q27a))
def qnp (m_Fields:(List S55)) (m_Body:(List Int)):Option (Int × Int):=fS Tryz.prog lv X0 66 qnl qnm (m_Fields,m_Body)
def qnq (m_Fields:(List S55)) (m_Body:(List Int)):Option (Int × Int) :=
 (gdE (EC.isL q26s (EC.encL q26s m_Fields)) <|
 (Option.bind (qjt (EC.decL q26s (EC.encL q26s m_Fields))) fun r0 =>
 (Option.bind (q57 r0.1 r0.2) fun r1 =>
 (brE r1
 (some (r0.1,r0.2))
 (gdE (EC.isL q26s (EC.encL q26s m_Fields)) <|
 (gdE (EC.isL q26q (EC.encL q26q m_Body)) <|
 (Option.bind (qol (EC.decL q26s (EC.encL q26s m_Fields)) (EC.decL q26q (EC.encL q26q m_Body))) fun r2 =>
 (brE (decide (((r2.1:Nat):Int) > 12000))
 (Option.bind (q5d 1 (-4)) fun r3 =>
 (some (r3.1,r3.2)))
 (gdE (EC.isL q26q (EC.encL q26q m_Body)) <|
 (Option.bind (qo1 (EC.decL q26q (EC.encL q26q m_Body))) fun r3 =>
 (some (r3.1,r3.2))))))))))))
theorem qno {m_Fields} {m_Body} {r} (h:qnq m_Fields m_Body=some r):qnp m_Fields m_Body=some r :=
 qf2 (es:=q10a) (hs:=[]) [] Tryz.func66 rfl (by kernel_rfl) rfl (by kernel_rfl) (by kernel_rfl) trivial trivial (by kernel_rfl) h
def qnn:=entS Tryz.prog lv X0 66 [] qnl qnm (fun x=>qnp x.1 x.2) (fun _ _ h=>qf1 h)
def q108:=qnn::q10a
def qnr:=(q27b (vAgg (q279 (vC (cSl q26s)) (q27b (vC (cSl q26q))))))
def qns:Cod (V × List B) ((Nat × (Int × Int)) × (List Int)):=(cPair (vTup (q279 (vRow 0) (q27b (vAgg (q279 (vC (cInt .i64)) (q27b (vC (cInt .i64)))))))) (q27b (bRow q26q)))
def qnv (m_Fields:(List S55)) (m_Body:(List Int)):Option ((Nat × (Int × Int)) × (List Int)):=fS Tryz.prog lv X0 42 qnr qns (m_Fields,m_Body)
def qnw (m_Fields:(List S55)) (m_Body:(List Int)):Option ((Nat × (Int × Int)) × (List Int)) :=
 (gdE (EC.isL q26s (EC.encL q26s m_Fields)) <|
 (gdE (EC.isL q26q (EC.encL q26q m_Body)) <|
 (Option.bind (qnp (EC.decL q26s (EC.encL q26s m_Fields)) (EC.decL q26q (EC.encL q26q m_Body))) fun r0 =>
 (Option.bind (q57 r0.1 r0.2) fun r1 =>
 (brE r1
 (some ((0,(r0.1,r0.2)),(EC.decL q26q [])))
 (gdE (EC.isL q26s (EC.encL q26s m_Fields)) <|
 (gdE (EC.isL q26q (EC.encL q26q m_Body)) <|
 (Option.bind (qol (EC.decL q26s (EC.encL q26s m_Fields)) (EC.decL q26q (EC.encL q26q m_Body))) fun r2 =>
 (Option.bind q6e fun r3 =>
 (gdE (EC.isL q26q (EC.encL q26q r2.2)) <|
 (some ((r2.1,(r3.1,r3.2)),(EC.decL q26q (EC.encL q26q r2.2))))))))))))))
theorem qnu {m_Fields} {m_Body} {r} (h:qnw m_Fields m_Body=some r):qnv m_Fields m_Body=some r :=
 qf2 (es:=q108) (hs:=[]) [] Tryz.func42 rfl (by kernel_rfl) rfl (by kernel_rfl) (by kernel_rfl) trivial trivial (by kernel_rfl) h
def qnt:=entS Tryz.prog lv X0 42 [] qnr qns (fun x=>qnv x.1 x.2) (fun _ _ h=>qf1 h)
def q109:=qnt::q108
def qa1:=(q27b (vC (cInt .u8)))
def qa2:Cod (V × List B) Bool:=(cFstU (cPair (vC cBool) q27a))
def qa5 (c:Int):Option Bool:=fS Tryz.prog lv X0 140 qa1 qa2 c
def qa6 (c:Int):Option Bool :=
 (brE ((decide (c ≥ 97))==true)
 (brE ((decide (c≤122))==false)
 (brE ((decide (c ≥ 48))==true)
 (brE ((decide (c≤57))==false)
 (brE ((c==45)==false)
 (some (c==46))
 (some true))
 (some true))
 (brE ((c==45)==false)
 (some (c==46))
 (some true)))
 (some true))
 (brE ((decide (c ≥ 48))==true)
 (brE ((decide (c≤57))==false)
 (brE ((c==45)==false)
 (some (c==46))
 (some true))
 (some true))
 (brE ((c==45)==false)
 (some (c==46))
 (some true))))
theorem qa4 {c} {r} (h:qa6 c=some r):qa5 c=some r :=
 qf2 (es:=q109) (hs:=[]) [] Tryz.func140 rfl (by kernel_rfl) rfl (by kernel_rfl) (by kernel_rfl) trivial trivial (by kernel_rfl) h
def qa3:=entS Tryz.prog lv X0 140 [] qa1 qa2 (fun x=>qa5 x) (fun _ _ h=>qf1 h)
def qzn:=qa3::q109
def qz:Cod (List V) (ByteArray × Unit):=(q279 (vC cStr) (q27b (vFn 140 q27a)))
def q19:=sLS [0,1,7,8] (q279 (vC cStr) (q279 (vFn 140 q27a) (q279 (vC (cInt .i64)) (q27b (vC (cInt .i64)))))) q27a [] [] (by decide) (fun _=>rfl)
def q18:=sLS [0,1,7,8,9] (q279 (vC cStr) (q279 (vFn 140 q27a) (q279 (vC (cInt .i64)) (q279 (vC (cInt .i64)) (q27b (vC cBool)))))) q27a [] [] (by decide) (fun _=>rfl)
def q17:=sLS [4] (q27b (vC cBool)) q27a [] [] (by decide) (fun _=>rfl)
def q16:=oOr 1 q17 (oAt 2 q18) (fun x=>(by decide:(2:Nat)≠1))
def q13 (s:ByteArray) (t7:Int) (t8:Int):Option ((Bool × Unit) ⊕ ((ByteArray × Unit × Int × Int × Bool) × Unit)):=lS Tryz.prog lv X0 84 18 (q270 (cdF Tryz.f84) 2) q19 q16 ((s,(),t7,t8),())
def q1a (s:ByteArray) (t7:Int) (t8:Int):Option ((Bool × Unit) ⊕ ((ByteArray × Unit × Int × Int × Bool) × Unit)) :=
 (brE (decide (t8<t7))
 (gdE ((decide (0≤t8))&&(decide ((Int.toNat t8)<(ByteArray.size s)))) <|
 (Option.bind (qa5 (((UInt8.toNat (Array.getD (ByteArray.data s) (Int.toNat t8) (0:UInt8))):Nat):Int)) fun r0 =>
 (brE (!r0)
 (some (.inl (false,())))
 (q13 s t7 (IntKind.wrap .i64 (t8+1))))))
 (some (.inr ((s,((),(t7,(t8,false)))),()))))
theorem q15 {s} {t7} {t8} {r} (h:q1a s t7 t8=some r):q13 s t7 t8=some r :=
 qm5 (es:=qzn) (hs:=[]) [] (by kernel_rfl) trivial trivial (by kernel_rfl) h
def q14:=q27d Tryz.prog lv X0 2 (q270 (cdF Tryz.f84) 2) q19 q16 (fun x=>q13 x.1.1 x.1.2.2.1 x.1.2.2.2) (fun _ _ h=>qm4 h)
def q10:Cod (V × List B) Bool:=(cFstU (cPair (vC cBool) q27a))
def q1d (s:ByteArray):Option Bool:=fS Tryz.prog lv X0 84 qz q10 (s,())
def q1f (s:ByteArray):Option Bool :=
 (Option.bind (q13 s (s.size:Int) 0) fun r0 =>
 (Sum.elim (fun r1=>(some r1.1))
 (fun r1=>(some true)) r0))
theorem q12 {s} {r} (h:q1f s=some r):q1d s=some r :=
 qf2 (es:=qzn) (hs:=[]) [q14] Tryz.func84 rfl (by kernel_rfl) rfl (by kernel_rfl) (by kernel_rfl) ⟨⟨_,rfl,rfl⟩,trivial⟩ trivial (by kernel_rfl) h
def q11:=entS Tryz.prog lv X0 84 [140] qz q10 (fun x=>q1d x.1) (fun _ _ h=>qf1 h)
def qz6:=q11::qzn
def qa7:=(q27b (vC cStr))
def qa8:Cod (V × List B) Bool:=(cFstU (cPair (vC cBool) q27a))
def qab (s:ByteArray):Option Bool:=fS Tryz.prog lv X0 113 qa7 qa8 s
def qac (s:ByteArray):Option Bool :=
 (brE ((!((ByteArray.toList s)==(ByteArray.toList ⟨#[]⟩)))==true)
 (brE ((decide ((s.size:Int)≤60))==true)
 (Option.bind (q1d s) fun r0 =>
 (brE (r0==true)
 (Option.bind (qye s (ByteArray.mk (List.toArray [(46:UInt8)]))) fun r1 =>
 (brE ((!r1)==true)
 (Option.bind (qyk s (ByteArray.mk (List.toArray [(46:UInt8)]))) fun r2 =>
 (brE ((!r2)==true)
 (Option.bind (contP s (ByteArray.mk (List.toArray [(46:UInt8),(46:UInt8)]))) fun r3 =>
 (some (!r3)))
 (some false)))
 (some false)))
 (some false)))
 (some false))
 (some false))
theorem qaa {s} {r} (h:qac s=some r):qab s=some r :=
 qf2 (es:=qz6) (hs:=[]) [] Tryz.func113 rfl (by kernel_rfl) rfl (by kernel_rfl) (by kernel_rfl) trivial trivial (by kernel_rfl) h
def qa9:=entS Tryz.prog lv X0 113 [] qa7 qa8 (fun x=>qab x) (fun _ _ h=>qf1 h)
def qzm:=qa9::qz6
def qax:=(q27b (vC (cInt .u8)))
def qay:Cod (V × List B) Bool:=(cFstU (cPair (vC cBool) q27a))
def qb1 (c:Int):Option Bool:=fS Tryz.prog lv X0 111 qax qay c
def qb2 (c:Int):Option Bool :=
 (Option.bind (q5j c) fun r0 =>
 (brE (r0==false)
 (some (decide ((Go.Lib.indexByte (Array.toList (List.toArray [(45:UInt8),(95:UInt8),(46:UInt8),(43:UInt8),(61:UInt8)])) (Nat.toUInt8 (Int.toNat c))) ≥ 0)))
 (some true)))
theorem qb0 {c} {r} (h:qb2 c=some r):qb1 c=some r :=
 qf2 (es:=qzm) (hs:=[]) [] Tryz.func111 rfl (by kernel_rfl) rfl (by kernel_rfl) (by kernel_rfl) trivial trivial (by kernel_rfl) h
def qaz:=entS Tryz.prog lv X0 111 [] qax qay (fun x=>qb1 x) (fun _ _ h=>qf1 h)
def qzr:=qaz::qzm
def q1y:Cod (List V) (ByteArray × Unit):=(q279 (vC cStr) (q27b (vFn 111 q27a)))
def q28:=sLS [0,1,7,8] (q279 (vC cStr) (q279 (vFn 111 q27a) (q279 (vC (cInt .i64)) (q27b (vC (cInt .i64)))))) q27a [] [] (by decide) (fun _=>rfl)
def q27:=sLS [0,1,7,8,9] (q279 (vC cStr) (q279 (vFn 111 q27a) (q279 (vC (cInt .i64)) (q279 (vC (cInt .i64)) (q27b (vC cBool)))))) q27a [] [] (by decide) (fun _=>rfl)
def q26:=sLS [4] (q27b (vC cBool)) q27a [] [] (by decide) (fun _=>rfl)
def q25:=oOr 1 q26 (oAt 2 q27) (fun x=>(by decide:(2:Nat)≠1))
def q22 (s:ByteArray) (t7:Int) (t8:Int):Option ((Bool × Unit) ⊕ ((ByteArray × Unit × Int × Int × Bool) × Unit)):=lS Tryz.prog lv X0 84 18 (q270 (cdF Tryz.f84) 2) q28 q25 ((s,(),t7,t8),())
def q29 (s:ByteArray) (t7:Int) (t8:Int):Option ((Bool × Unit) ⊕ ((ByteArray × Unit × Int × Int × Bool) × Unit)) :=
 (brE (decide (t8<t7))
 (gdE ((decide (0≤t8))&&(decide ((Int.toNat t8)<(ByteArray.size s)))) <|
 (Option.bind (qb1 (((UInt8.toNat (Array.getD (ByteArray.data s) (Int.toNat t8) (0:UInt8))):Nat):Int)) fun r0 =>
 (brE (!r0)
 (some (.inl (false,())))
 (q22 s t7 (IntKind.wrap .i64 (t8+1))))))
 (some (.inr ((s,((),(t7,(t8,false)))),()))))
theorem q24 {s} {t7} {t8} {r} (h:q29 s t7 t8=some r):q22 s t7 t8=some r :=
 qm5 (es:=qzr) (hs:=[]) [] (by kernel_rfl) trivial trivial (by kernel_rfl) h
def q23:=q27d Tryz.prog lv X0 2 (q270 (cdF Tryz.f84) 2) q28 q25 (fun x=>q22 x.1.1 x.1.2.2.1 x.1.2.2.2) (fun _ _ h=>qm4 h)
def q1z:Cod (V × List B) Bool:=(cFstU (cPair (vC cBool) q27a))
def q2c (s:ByteArray):Option Bool:=fS Tryz.prog lv X0 84 q1y q1z (s,())
def q2e (s:ByteArray):Option Bool :=
 (Option.bind (q22 s (s.size:Int) 0) fun r0 =>
 (Sum.elim (fun r1=>(some r1.1))
 (fun r1=>(some true)) r0))
theorem q21 {s} {r} (h:q2e s=some r):q2c s=some r :=
 qf2 (es:=qzr) (hs:=[]) [q23] Tryz.func84 rfl (by kernel_rfl) rfl (by kernel_rfl) (by kernel_rfl) ⟨⟨_,rfl,rfl⟩,trivial⟩ trivial (by kernel_rfl) h
def q20:=entS Tryz.prog lv X0 84 [111] q1y q1z (fun x=>q2c x.1) (fun _ _ h=>qf1 h)
def qz8:=q20::qzr
def qb3:=(q27b (vC cStr))
def qb4:Cod (V × List B) (ByteArray × ByteArray × Bool):=(cFstU (cPair (vTup (q279 (vC cStr) (q279 (vC cStr) (q27b (vC cBool))))) q27a))
def qb7 (s:ByteArray):Option (ByteArray × ByteArray × Bool):=fS Tryz.prog lv X0 83 qb3 qb4 s
def qb8 (s:ByteArray):Option (ByteArray × ByteArray × Bool) :=
 (Option.bind (cutP s (ByteArray.mk (List.toArray [(64:UInt8)]))) fun r0 =>
 (brE (r0.2.2==true)
 (brE ((!((ByteArray.toList r0.1)==(ByteArray.toList ⟨#[]⟩)))==true)
 (brE ((decide ((((ByteArray.size r0.1):Nat):Int)≤60))==true)
 (Option.bind (q2c r0.1) fun r1 =>
 (brE (r1==true)
 (Option.bind (qab r0.2.1) fun r2 =>
 (some (r0.1,(r0.2.1,r2))))
 (some (r0.1,(r0.2.1,false)))))
 (some (r0.1,(r0.2.1,false))))
 (some (r0.1,(r0.2.1,false))))
 (some (r0.1,(r0.2.1,false)))))
theorem qb6 {s} {r} (h:qb8 s=some r):qb7 s=some r :=
 qf2 (es:=qz8) (hs:=[]) [] Tryz.func83 rfl (by kernel_rfl) rfl (by kernel_rfl) (by kernel_rfl) trivial trivial (by kernel_rfl) h
def qb5:=entS Tryz.prog lv X0 83 [] qb3 qb4 (fun x=>qb7 x) (fun _ _ h=>qf1 h)
def qzq:=qb5::qz8
def q9v:=(q27b (vC cStr))
def q9w:Cod (V × List B) Bool:=(cFstU (cPair (vC cBool) q27a))
def q9z (s:ByteArray):Option Bool:=fS Tryz.prog lv X0 63 q9v q9w s
def qa0 (s:ByteArray):Option Bool :=
 (Option.bind (qb7 s) fun r0 =>
 (some r0.2.2))
theorem q9y {s} {r} (h:qa0 s=some r):q9z s=some r :=
 qf2 (es:=qzq) (hs:=[]) [] Tryz.func63 rfl (by kernel_rfl) rfl (by kernel_rfl) (by kernel_rfl) trivial trivial (by kernel_rfl) h
def q9x:=entS Tryz.prog lv X0 63 [] q9v q9w (fun x=>q9z x) (fun _ _ h=>qf1 h)
def qzl:=q9x::qzq
def qad:=(q27b (vC (cInt .i64)))
def qae:Cod (V × List B) Bool:=(cFstU (cPair (vC cBool) q27a))
def qah (n:Int):Option Bool:=fS Tryz.prog lv X0 87 qad qae n
def qai (n:Int):Option Bool :=
 (brE ((decide (n ≥ 0))==true)
 (some (decide (n≤7)))
 (some false))
theorem qag {n} {r} (h:qai n=some r):qah n=some r :=
 qf2 (es:=qzl) (hs:=[]) [] Tryz.func87 rfl (by kernel_rfl) rfl (by kernel_rfl) (by kernel_rfl) trivial trivial (by kernel_rfl) h
def qaf:=entS Tryz.prog lv X0 87 [] qad qae (fun x=>qah x) (fun _ _ h=>qf1 h)
def qzo:=qaf::qzl
def qsp:=(q279 (vAgg (q279 (vC cStr) (q27b (vC (cInt .i64))))) (q27b (vEptr (q279 cStr (q27b (cInt .i64))) 0)))
def qsq:Cod (V × List B) Bool:=(cFstU (cPair (vC cBool) q27a))
def qst (x_Address:ByteArray) (x_Notify:Int) (c1_0:ByteArray) (c1_1:Int):Option Bool:=fS Tryz.prog lv X0 89 qsp qsq ((x_Address,x_Notify),(c1_0,c1_1))
def qsu (x_Address:ByteArray) (x_Notify:Int) (c1_0:ByteArray) (c1_1:Int):Option Bool :=
 (some ((ByteArray.toList x_Address)==(ByteArray.toList c1_0)))
theorem qss {x_Address} {x_Notify} {c1_0} {c1_1} {r} (h:qsu x_Address x_Notify c1_0 c1_1=some r):qst x_Address x_Notify c1_0 c1_1=some r :=
 qf2 (es:=qzo) (hs:=[]) [] Tryz.func89 rfl (by kernel_rfl) rfl (by kernel_rfl) (by kernel_rfl) trivial trivial (by kernel_rfl) h
def qsr:=entS Tryz.prog lv X0 89 [] qsp qsq (fun x=>qst x.1.1 x.1.2 x.2.1 x.2.2) (fun _ _ h=>qf1 h)
def q10h:=qsr::qzo
structure S118 where
 Address:ByteArray
 Notify:Int
def q26k:EC S118 where
 enc x:=[.str x.Address,.int .i64 x.Notify]
 dec c:=⟨q27s (c.getD 0 .ne),q273 (c.getD 1 .ne)⟩
 is c:=isE [.str,.int .i64] 0 c
 enc_dec h:=q8r h
 dec_enc x:=by rfl
 is_enc x:=by simp [isE,isK]
theorem q9o (x:S118):q26k.enc x=[.str x.Address,.int .i64 x.Notify]:=rfl
theorem qlh (xs:List S118) (n:Nat):isE [.str,.int .i64] 0 ((q26k.encL xs).getD n [])=decide (n<xs.length):=by
 by_cases h:n<xs.length
 ·simp only [EC.getD_lt _ _ h];simp [q9o,isE,isK,h]
 ·simp only [EC.getD_ge _ _ (Nat.not_lt.1 h)];simp [isE,isK,h]
theorem q3o (xs:List S118) (n:Nat):q27s (((q26k.encL xs).getD n []).getD 0 .ne)=(xs.getD n (q26k.dec [])).Address:=by
 by_cases h:n<xs.length
 ·simp only [EC.getD_lt _ _ h];simp [q9o,h,q27s,List.getD_eq_getElem?_getD]
 ·simp only [EC.getD_ge _ _ (Nat.not_lt.1 h)];simp [Nat.not_lt.1 h,q26k,q27s,q273,List.getD_eq_getElem?_getD]
theorem q3p (xs:List S118) (n:Nat):q273 (((q26k.encL xs).getD n []).getD 1 .ne)=(xs.getD n (q26k.dec [])).Notify:=by
 by_cases h:n<xs.length
 ·simp only [EC.getD_lt _ _ h];simp [q9o,h,q273,List.getD_eq_getElem?_getD]
 ·simp only [EC.getD_ge _ _ (Nat.not_lt.1 h)];simp [Nat.not_lt.1 h,q26k,q27s,q273,List.getD_eq_getElem?_getD]
theorem q3b (xs:List S118):(q26k.encL xs).all (fun (el:List C)=>el.length==2)=true:=by induction xs with|nil=>rfl|cons x xs ih=>first|(simp [EC.encL,q9o];done)|simpa [EC.encL,q9o] using ih
def qkp:=(q279 (vC (cSl q26k)) (q27b (vFn 89 (q27b (vEptr (q279 cStr (q27b (cInt .i64))) 0)))))
def qkz:=sLS [0,1,7,8] (q279 (vC (cSl q26k)) (q279 (vFn 89 (q27b (vEptr (q279 cStr (q27b (cInt .i64))) 0))) (q279 (vC (cInt .i64)) (q27b (vC (cInt .i64)))))) q27a [] [] (by decide) (fun _=>rfl)
def qky:=sLS [0,1,7,8,9] (q279 (vC (cSl q26k)) (q279 (vFn 89 (q27b (vEptr (q279 cStr (q27b (cInt .i64))) 0))) (q279 (vC (cInt .i64)) (q279 (vC (cInt .i64)) (q27b (vC cBool)))))) q27a [] [] (by decide) (fun _=>rfl)
def qkx:=sLS [4] (q27b (vC (cInt .i64))) q27a [] [] (by decide) (fun _=>rfl)
def qkw:=oOr 1 qkx (oAt 2 qky) (fun x=>(by decide:(2:Nat)≠1))
def qkt (s:(List S118)) (f:ByteArray) (f_1:Int) (t7:Int) (t8:Int):Option ((Int × Unit) ⊕ (((List S118) × (ByteArray × Int) × Int × Int × Bool) × Unit)):=lS Tryz.prog lv X0 114 19 (q270 (cdF Tryz.f114) 2) qkz qkw ((s,(f,f_1),t7,t8),())
def ql0 (s:(List S118)) (f:ByteArray) (f_1:Int) (t7:Int) (t8:Int):Option ((Int × Unit) ⊕ (((List S118) × (ByteArray × Int) × Int × Int × Bool) × Unit)) :=
 (brE (decide (t8<t7))
 (gdE (decide (0≤t8)) <|
 (gdE ((decide ((Int.toNat t8)<(List.length (EC.encL q26k s))))&&(isE [K1.str,(K1.int Go.IntKind.i64)] 0 (List.getD (EC.encL q26k s) (Int.toNat t8) []))) <|
 (Option.bind (qst (q27s (List.getD (List.getD (EC.encL q26k s) (Int.toNat t8) []) 0 C.ne)) (q273 (List.getD (List.getD (EC.encL q26k s) (Int.toNat t8) []) 1 C.ne)) f f_1) fun r0 =>
 (brE r0
 (some (.inl (t8,())))
 (gdE (EC.isL q26k (EC.encL q26k s)) <|
 (qkt (EC.decL q26k (EC.encL q26k s)) f f_1 t7 (IntKind.wrap .i64 (t8+1))))))))
 (gdE (EC.isL q26k (EC.encL q26k s)) <|
 (some (.inr (((EC.decL q26k (EC.encL q26k s)),((f,f_1),(t7,(t8,false)))),())))))
theorem qkv {s} {f} {f_1} {t7} {t8} {r} (h:ql0 s f f_1 t7 t8=some r):qkt s f f_1 t7 t8=some r :=
 qm5 (es:=q10h) (hs:=[]) [] (by kernel_rfl) trivial trivial (by kernel_rfl) h
def qku:=q27d Tryz.prog lv X0 2 (q270 (cdF Tryz.f114) 2) qkz qkw (fun x=>qkt x.1.1 x.1.2.1.1 x.1.2.1.2 x.1.2.2.1 x.1.2.2.2) (fun _ _ h=>qm4 h)
def qkq:Cod (V × List B) Int:=(cFstU (cPair (vC (cInt .i64)) q27a))
def ql2 (s:(List S118)) (f_0:ByteArray) (f_1:Int):Option Int:=fS Tryz.prog lv X0 114 qkp qkq (s,(f_0,f_1))
def ql3 (s:(List S118)) (f_0:ByteArray) (f_1:Int):Option Int :=
 (gdE (EC.isL q26k (EC.encL q26k s)) <|
 (Option.bind (qkt (EC.decL q26k (EC.encL q26k s)) f_0 f_1 (List.length (EC.encL q26k s):Int) 0) fun r0 =>
 (Sum.elim (fun r1=>(some r1.1))
 (fun r1=>(some (-1:Int))) r0)))
theorem qks {s} {f_0} {f_1} {r} (h:ql3 s f_0 f_1=some r):ql2 s f_0 f_1=some r :=
 qf2 (es:=q10h) (hs:=[]) [qku] Tryz.func114 rfl (by kernel_rfl) rfl (by kernel_rfl) (by kernel_rfl) ⟨⟨_,rfl,rfl⟩,trivial⟩ trivial (by kernel_rfl) h
def qkr:=entS Tryz.prog lv X0 114 [89] qkp qkq (fun x=>ql2 x.1 x.2.1 x.2.2) (fun _ _ h=>qf1 h)
def q107:=qkr::q10h
def qiv:=(q279 (vC (cSl q26k)) (q27b (vFn 89 (q27b (vEptr (q279 cStr (q27b (cInt .i64))) 0)))))
def qiw:Cod (V × List B) Bool:=(cFstU (cPair (vC cBool) q27a))
def qj0 (s:(List S118)) (f_0:ByteArray) (f_1:Int):Option Bool:=fS Tryz.prog lv X0 88 qiv qiw (s,(f_0,f_1))
def qj1 (s:(List S118)) (f_0:ByteArray) (f_1:Int):Option Bool :=
 (gdE (EC.isL q26k (EC.encL q26k s)) <|
 (Option.bind (ql2 (EC.decL q26k (EC.encL q26k s)) f_0 f_1) fun r0 =>
 (some (decide (r0 ≥ 0)))))
theorem qiy {s} {f_0} {f_1} {r} (h:qj1 s f_0 f_1=some r):qj0 s f_0 f_1=some r :=
 qf2 (es:=q107) (hs:=[]) [] Tryz.func88 rfl (by kernel_rfl) rfl (by kernel_rfl) (by kernel_rfl) trivial trivial (by kernel_rfl) h
def qix:=entS Tryz.prog lv X0 88 [89] qiv qiw (fun x=>qj0 x.1 x.2.1 x.2.2) (fun _ _ h=>qf1 h)
def q102:=qix::q107
def qaj:=(q27b (vC (cSl q26k)))
def qat:=sLS [0,2,5,6,7] (q279 (vC (cSl q26k)) (q279 (vPtr 0 0) (q279 (vC (cSl q26k)) (q279 (vC (cInt .i64)) (q27b (vC (cInt .i64))))))) (q27b (q27g (bBox (q279 (vC (cInt .i64)) (q27b (vC (cInt .i64))))))) [false] [] (by decide) (fun _=>rfl)
def qas:=sLS [0,2,5,6,7,8] (q279 (vC (cSl q26k)) (q279 (vPtr 0 0) (q279 (vC (cSl q26k)) (q279 (vC (cInt .i64)) (q279 (vC (cInt .i64)) (q27b (vC cBool))))))) (q27b (q27g (bBox (q279 (vC (cInt .i64)) (q27b (vC (cInt .i64))))))) [false] [] (by decide) (fun _=>rfl)
def qar:=sLS [2] (q27b (vPtr 0 0)) (q27b (q27g (bBox (q279 (vC (cInt .i64)) (q27b (vC (cInt .i64))))))) [false] [] (by decide) (fun _=>rfl)
def qaq:=oOr 1 qar (oAt 2 qas) (fun x=>(by decide:(2:Nat)≠1))
def qan (l:(List S118)) (t5:(List S118)) (t6:Int) (t7:Int) (b0:Int) (b0_1:Int):Option ((Unit × (Int × Int)) ⊕ (((List S118) × Unit × (List S118) × Int × Int × Bool) × (Int × Int))):=lS Tryz.prog lv X0 65 36 (q270 (cdF Tryz.f65) 2) qat qaq ((l,(),t5,t6,t7),(b0,b0_1))
def qau (l:(List S118)) (t5:(List S118)) (t6:Int) (t7:Int) (b0:Int) (b0_1:Int):Option ((Unit × (Int × Int)) ⊕ (((List S118) × Unit × (List S118) × Int × Int × Bool) × (Int × Int))) :=
 (brE (decide (t7<t6))
 (gdE (decide (0≤t7)) <|
 (gdE ((decide ((Int.toNat t7)<(List.length (EC.encL q26k t5))))&&(isE [K1.str,(K1.int Go.IntKind.i64)] 0 (List.getD (EC.encL q26k t5) (Int.toNat t7) []))) <|
 (Option.bind (q9z (q27s (List.getD (List.getD (EC.encL q26k t5) (Int.toNat t7) []) 0 C.ne))) fun r0 =>
 (brE (!r0)
 (Option.bind (q5d 10 t7) fun r1 =>
 (some (.inl ((),(r1.1,r1.2)))))
 (Option.bind (qah (q273 (List.getD (List.getD (EC.encL q26k t5) (Int.toNat t7) []) 1 C.ne))) fun r1 =>
 (brE (!r1)
 (Option.bind (q5d 3 t7) fun r2 =>
 (some (.inl ((),(r2.1,r2.2)))))
 (gdE ((decide (0≤t7))&&(decide (t7≤(List.length (EC.encL q26k l):Int)))) <|
 (gdE (List.all (EC.encL q26k l) (fun (el:(List C))=>((List.length el)==2))) <|
 (gdE (EC.isL q26k (List.take ((Int.toNat t7) - 0) (List.drop 0 (EC.encL q26k l)))) <|
 (Option.bind (qj0 (EC.decL q26k (List.take ((Int.toNat t7) - 0) (List.drop 0 (EC.encL q26k l)))) (q27s (List.getD (List.getD (EC.encL q26k t5) (Int.toNat t7) []) 0 C.ne)) (q273 (List.getD (List.getD (EC.encL q26k t5) (Int.toNat t7) []) 1 C.ne))) fun r2 =>
 (brE r2
 (Option.bind (q5d 7 t7) fun r3 =>
 (some (.inl ((),(r3.1,r3.2)))))
 (gdE (EC.isL q26k (EC.encL q26k l)) <|
 (gdE (EC.isL q26k (EC.encL q26k t5)) <|
 (qan (EC.decL q26k (EC.encL q26k l)) (EC.decL q26k (EC.encL q26k t5)) t6 (IntKind.wrap .i64 (t7+1)) b0 b0_1))))))))))))))
 (gdE (EC.isL q26k (EC.encL q26k l)) <|
 (gdE (EC.isL q26k (EC.encL q26k t5)) <|
 (some (.inr (((EC.decL q26k (EC.encL q26k l)),((),((EC.decL q26k (EC.encL q26k t5)),(t6,(t7,false))))),(b0,b0_1)))))))
theorem qap {l} {t5} {t6} {t7} {b0} {b0_1} {r} (h:qau l t5 t6 t7 b0 b0_1=some r):qan l t5 t6 t7 b0 b0_1=some r :=
 qm5 (es:=q102) (hs:=[]) [] (by kernel_rfl) trivial trivial (by kernel_rfl) h
def qao:=q27d Tryz.prog lv X0 2 (q270 (cdF Tryz.f65) 2) qat qaq (fun x=>qan x.1.1 x.1.2.2.1 x.1.2.2.2.1 x.1.2.2.2.2 x.2.1 x.2.2) (fun _ _ h=>qm4 h)
def qak:Cod (V × List B) (Int × Int):=(cFstU (cPair (vAgg (q279 (vC (cInt .i64)) (q27b (vC (cInt .i64))))) q27a))
def qav (l:(List S118)):Option (Int × Int):=fS Tryz.prog lv X0 65 qaj qak l
def qaw (l:(List S118)):Option (Int × Int) :=
 (gdE (EC.isL q26k (EC.encL q26k l)) <|
 (gdE (EC.isL q26k (EC.encL q26k l)) <|
 (Option.bind (qan (EC.decL q26k (EC.encL q26k l)) (EC.decL q26k (EC.encL q26k l)) (List.length (EC.encL q26k l):Int) 0 0 0) fun r0 =>
 (Sum.elim (fun r1=>(some (r1.2.1,r1.2.2)))
 (fun r1=>(Option.bind q6e fun r2 =>
 (some (r2.1,r2.2)))) r0))))
theorem qam {l} {r} (h:qaw l=some r):qav l=some r :=
 qf2 (es:=q102) (hs:=[]) [qao] Tryz.func65 rfl (by kernel_rfl) rfl (by kernel_rfl) (by kernel_rfl) ⟨⟨_,rfl,rfl⟩,trivial⟩ trivial (by kernel_rfl) h
def qal:=entS Tryz.prog lv X0 65 [] qaj qak (fun x=>qav x) (fun _ _ h=>qf1 h)
def qzp:=qal::q102
def qb9:=(q27b (vAgg (q279 (vC cStr) (q279 (vC (cSl q26k)) (q27b (vC cStr))))))
def qba:Cod (V × List B) (Int × Int):=(cFstU (cPair (vAgg (q279 (vC (cInt .i64)) (q27b (vC (cInt .i64))))) q27a))
def qbd (e_From:ByteArray) (e_To:(List S118)) (e_Id:ByteArray):Option (Int × Int):=fS Tryz.prog lv X0 40 qb9 qba (e_From,e_To,e_Id)
def qbe (e_From:ByteArray) (e_To:(List S118)) (e_Id:ByteArray):Option (Int × Int) :=
 (brE ((!((ByteArray.toList e_From)==(ByteArray.toList ⟨#[]⟩)))==true)
 (Option.bind (q9z e_From) fun r0 =>
 (brE (!r0)
 (Option.bind (q5d 10 (-10)) fun r1 =>
 (some (r1.1,r1.2)))
 (brE ((decide ((List.length (EC.encL q26k e_To):Int)<1))==false)
 (brE (decide ((List.length (EC.encL q26k e_To):Int) > 60))
 (Option.bind (q5d 2 (-11)) fun r1 =>
 (some (r1.1,r1.2)))
 (brE ((!((ByteArray.toList e_Id)==(ByteArray.toList ⟨#[]⟩)))==true)
 (Option.bind (q68 e_Id) fun r1 =>
 (brE (!r1)
 (Option.bind (q5d 10 (-12)) fun r2 =>
 (some (r2.1,r2.2)))
 (gdE (EC.isL q26k (EC.encL q26k e_To)) <|
 (Option.bind (qav (EC.decL q26k (EC.encL q26k e_To))) fun r2 =>
 (some (r2.1,r2.2))))))
 (gdE (EC.isL q26k (EC.encL q26k e_To)) <|
 (Option.bind (qav (EC.decL q26k (EC.encL q26k e_To))) fun r1 =>
 (some (r1.1,r1.2))))))
 (Option.bind (q5d 2 (-11)) fun r1 =>
 (some (r1.1,r1.2))))))
 (brE ((decide ((List.length (EC.encL q26k e_To):Int)<1))==false)
 (brE (decide ((List.length (EC.encL q26k e_To):Int) > 60))
 (Option.bind (q5d 2 (-11)) fun r0 =>
 (some (r0.1,r0.2)))
 (brE ((!((ByteArray.toList e_Id)==(ByteArray.toList ⟨#[]⟩)))==true)
 (Option.bind (q68 e_Id) fun r0 =>
 (brE (!r0)
 (Option.bind (q5d 10 (-12)) fun r1 =>
 (some (r1.1,r1.2)))
 (gdE (EC.isL q26k (EC.encL q26k e_To)) <|
 (Option.bind (qav (EC.decL q26k (EC.encL q26k e_To))) fun r1 =>
 (some (r1.1,r1.2))))))
 (gdE (EC.isL q26k (EC.encL q26k e_To)) <|
 (Option.bind (qav (EC.decL q26k (EC.encL q26k e_To))) fun r0 =>
 (some (r0.1,r0.2))))))
 (Option.bind (q5d 2 (-11)) fun r0 =>
 (some (r0.1,r0.2)))))
theorem qbc {e_From} {e_To} {e_Id} {r} (h:qbe e_From e_To e_Id=some r):qbd e_From e_To e_Id=some r :=
 qf2 (es:=qzp) (hs:=[]) [] Tryz.func40 rfl (by kernel_rfl) rfl (by kernel_rfl) (by kernel_rfl) trivial trivial (by kernel_rfl) h
def qbb:=entS Tryz.prog lv X0 40 [] qb9 qba (fun x=>qbd x.1 x.2.1 x.2.2) (fun _ _ h=>qf1 h)
def qzs:=qbb::qzp
end
end Go.Proofs.YtokahibbkdbndaaGreatDoor
