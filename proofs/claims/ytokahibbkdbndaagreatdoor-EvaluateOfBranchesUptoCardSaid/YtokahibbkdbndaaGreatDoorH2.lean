/- Functions of the program as plain functions: made by program from the machine. -/
import Derived.Test.YtokahibbkdbndaaGreatDoorH1
namespace Go.Proofs.YtokahibbkdbndaaGreatDoor
open Go.RowKit
set_option maxRecDepth 100000
noncomputable section
structure S192 where
 one:Bool
 many:Bool
 c:Int
def q26l:EC S192 where
 enc x:=[.bool x.one,.bool x.many,.int .u8 x.c]
 dec c:=⟨q26h (c.getD 0 .ne),q26h (c.getD 1 .ne),q273 (c.getD 2 .ne)⟩
 is c:=isE [.bool,.bool,.int .u8] 0 c
 enc_dec h:=q8r h
 dec_enc x:=by rfl
 is_enc x:=by simp [isE,isK]
theorem q9p (x:S192):q26l.enc x=[.bool x.one,.bool x.many,.int .u8 x.c]:=rfl
theorem qli (xs:List S192) (n:Nat):isE [.bool,.bool,.int .u8] 0 ((q26l.encL xs).getD n [])=decide (n<xs.length):=by
 by_cases h:n<xs.length
 ·simp only [EC.getD_lt _ _ h];simp [q9p,isE,isK,h]
 ·simp only [EC.getD_ge _ _ (Nat.not_lt.1 h)];simp [isE,isK,h]
theorem q3q (xs:List S192) (n:Nat):q26h (((q26l.encL xs).getD n []).getD 0 .ne)=(xs.getD n (q26l.dec [])).one:=by
 by_cases h:n<xs.length
 ·simp only [EC.getD_lt _ _ h];simp [q9p,h,q26h,List.getD_eq_getElem?_getD]
 ·simp only [EC.getD_ge _ _ (Nat.not_lt.1 h)];simp [Nat.not_lt.1 h,q26l,q273,q26h,List.getD_eq_getElem?_getD]
theorem q3r (xs:List S192) (n:Nat):q26h (((q26l.encL xs).getD n []).getD 1 .ne)=(xs.getD n (q26l.dec [])).many:=by
 by_cases h:n<xs.length
 ·simp only [EC.getD_lt _ _ h];simp [q9p,h,q26h,List.getD_eq_getElem?_getD]
 ·simp only [EC.getD_ge _ _ (Nat.not_lt.1 h)];simp [Nat.not_lt.1 h,q26l,q273,q26h,List.getD_eq_getElem?_getD]
theorem q3s (xs:List S192) (n:Nat):q273 (((q26l.encL xs).getD n []).getD 2 .ne)=(xs.getD n (q26l.dec [])).c:=by
 by_cases h:n<xs.length
 ·simp only [EC.getD_lt _ _ h];simp [q9p,h,q273,List.getD_eq_getElem?_getD]
 ·simp only [EC.getD_ge _ _ (Nat.not_lt.1 h)];simp [Nat.not_lt.1 h,q26l,q273,q26h,List.getD_eq_getElem?_getD]
theorem qmu (a0:Bool) (a1:Bool) (a2:Int):([.bool a0,.bool a1,.int .u8 a2]:List C)=q26l.enc (⟨a0,a1,a2⟩:S192):=rfl
theorem q3l (xs:List S192) (a0:Bool) (a1:Bool) (a2:Int):q26l.encL xs++[[.bool a0,.bool a1,.int .u8 a2]]=q26l.encL (xs++[(⟨a0,a1,a2⟩:S192)]):=by rw [qmu];simp [EC.encL]
theorem q3c (xs:List S192):(q26l.encL xs).all (fun (el:List C)=>el.length==3)=true:=by induction xs with|nil=>rfl|cons x xs ih=>first|(simp [EC.encL,q9p];done)|simpa [EC.encL,q9p] using ih
def qq2:=(q27b (vC cStr))
def qqc:=sLS [0,4,5] (q279 (vC cStr) (q279 (vRow 0) (q27b (vC (cInt .i64))))) (q27b (q27g (bRow q26l))) [false] [] (by decide) (fun _=>rfl)
def qqb:=sLS [0,4,5,9] (q279 (vC cStr) (q279 (vRow 0) (q279 (vC (cInt .i64)) (q27b (vC cBool))))) (q27b (q27g (bRow q26l))) [false] [] (by decide) (fun _=>rfl)
def qqa:=sLS [2,3] (q279 (vRow 0) (q27b (vC cBool))) (q27b (q27g (bRow q26l))) [false] [] (by decide) (fun _=>rfl)
def qq9:=oOr 1 qqa (oAt 2 qqb) (fun x=>(by decide:(2:Nat)≠1))
def qq6 (p:ByteArray) (out:Nat) (i:Int) (b0:(List S192)):Option (((Nat × Bool) × (List S192)) ⊕ ((ByteArray × Nat × Int × Bool) × (List S192))):=lS Tryz.prog lv X0 152 50 (q270 (cdF Tryz.f152) 3) qqc qq9 ((p,out,i),b0)
def qqd (p:ByteArray) (out:Nat) (i:Int) (b0:(List S192)):Option (((Nat × Bool) × (List S192)) ⊕ ((ByteArray × Nat × Int × Bool) × (List S192))) :=
 (brE (decide (i<(p.size:Int)))
 (gdE ((decide (0≤i))&&(decide ((Int.toNat i)<(ByteArray.size p)))) <|
 (brE ((((UInt8.toNat (Array.getD (ByteArray.data p) (Int.toNat i) (0:UInt8))):Nat):Int)==42)
 (gdE ((((List.all [[(C.bool false),(C.bool true),(C.int Go.IntKind.u8 0)]] (fun (el:(List C))=>((List.length el)==3)))&&(List.all (EC.encL q26l b0) (fun (el:(List C))=>((List.length el)==3))))&&(decide (((((out+(List.length [[(C.bool false),(C.bool true),(C.int Go.IntKind.u8 0)]]))+((out+(List.length [[(C.bool false),(C.bool true),(C.int Go.IntKind.u8 0)]])) / 4))+192)*3)≤281474976710656)))&&(decide ((out+(List.length [[(C.bool false),(C.bool true),(C.int Go.IntKind.u8 0)]]))≤9223372036854775807))) <|
 (gdE (EC.isL q26l ((EC.encL q26l b0)++[[(C.bool false),(C.bool true),(C.int Go.IntKind.u8 0)]])) <|
 (qq6 p (out+(List.length [[(C.bool false),(C.bool true),(C.int Go.IntKind.u8 0)]])) (IntKind.wrap .i64 (i+1)) (EC.decL q26l ((EC.encL q26l b0)++[[(C.bool false),(C.bool true),(C.int Go.IntKind.u8 0)]])))))
 (brE ((((UInt8.toNat (Array.getD (ByteArray.data p) (Int.toNat i) (0:UInt8))):Nat):Int)==63)
 (gdE ((((List.all [[(C.bool true),(C.bool false),(C.int Go.IntKind.u8 0)]] (fun (el:(List C))=>((List.length el)==3)))&&(List.all (EC.encL q26l b0) (fun (el:(List C))=>((List.length el)==3))))&&(decide (((((out+(List.length [[(C.bool true),(C.bool false),(C.int Go.IntKind.u8 0)]]))+((out+(List.length [[(C.bool true),(C.bool false),(C.int Go.IntKind.u8 0)]])) / 4))+192)*3)≤281474976710656)))&&(decide ((out+(List.length [[(C.bool true),(C.bool false),(C.int Go.IntKind.u8 0)]]))≤9223372036854775807))) <|
 (gdE (EC.isL q26l ((EC.encL q26l b0)++[[(C.bool true),(C.bool false),(C.int Go.IntKind.u8 0)]])) <|
 (qq6 p (out+(List.length [[(C.bool true),(C.bool false),(C.int Go.IntKind.u8 0)]])) (IntKind.wrap .i64 (i+1)) (EC.decL q26l ((EC.encL q26l b0)++[[(C.bool true),(C.bool false),(C.int Go.IntKind.u8 0)]])))))
 (brE ((((UInt8.toNat (Array.getD (ByteArray.data p) (Int.toNat i) (0:UInt8))):Nat):Int)==92)
 (brE ((IntKind.wrap .i64 (i+1))==(p.size:Int))
 (some (.inl ((0,false),(EC.decL q26l []))))
 (gdE ((decide (0≤(IntKind.wrap .i64 (i+1))))&&(decide ((Int.toNat (IntKind.wrap .i64 (i+1)))<(ByteArray.size p)))) <|
 (gdE ((((List.all [[(C.bool false),(C.bool false),(C.int Go.IntKind.u8 (((UInt8.toNat (Array.getD (ByteArray.data p) (Int.toNat (IntKind.wrap .i64 (i+1))) (0:UInt8))):Nat):Int))]] (fun (el:(List C))=>((List.length el)==3)))&&(List.all (EC.encL q26l b0) (fun (el:(List C))=>((List.length el)==3))))&&(decide (((((out+(List.length [[(C.bool false),(C.bool false),(C.int Go.IntKind.u8 (((UInt8.toNat (Array.getD (ByteArray.data p) (Int.toNat (IntKind.wrap .i64 (i+1))) (0:UInt8))):Nat):Int))]]))+((out+(List.length [[(C.bool false),(C.bool false),(C.int Go.IntKind.u8 (((UInt8.toNat (Array.getD (ByteArray.data p) (Int.toNat (IntKind.wrap .i64 (i+1))) (0:UInt8))):Nat):Int))]])) / 4))+192)*3)≤281474976710656)))&&(decide ((out+(List.length [[(C.bool false),(C.bool false),(C.int Go.IntKind.u8 (((UInt8.toNat (Array.getD (ByteArray.data p) (Int.toNat (IntKind.wrap .i64 (i+1))) (0:UInt8))):Nat):Int))]]))≤9223372036854775807))) <|
 (gdE (EC.isL q26l ((EC.encL q26l b0)++[[(C.bool false),(C.bool false),(C.int Go.IntKind.u8 (((UInt8.toNat (Array.getD (ByteArray.data p) (Int.toNat (IntKind.wrap .i64 (i+1))) (0:UInt8))):Nat):Int))]])) <|
 (qq6 p (out+(List.length [[(C.bool false),(C.bool false),(C.int Go.IntKind.u8 (((UInt8.toNat (Array.getD (ByteArray.data p) (Int.toNat (IntKind.wrap .i64 (i+1))) (0:UInt8))):Nat):Int))]])) (IntKind.wrap .i64 ((IntKind.wrap .i64 (i+1))+1)) (EC.decL q26l ((EC.encL q26l b0)++[[(C.bool false),(C.bool false),(C.int Go.IntKind.u8 (((UInt8.toNat (Array.getD (ByteArray.data p) (Int.toNat (IntKind.wrap .i64 (i+1))) (0:UInt8))):Nat):Int))]])))))))
 (gdE ((decide (0≤i))&&(decide ((Int.toNat i)<(ByteArray.size p)))) <|
 (gdE ((((List.all [[(C.bool false),(C.bool false),(C.int Go.IntKind.u8 (((UInt8.toNat (Array.getD (ByteArray.data p) (Int.toNat i) (0:UInt8))):Nat):Int))]] (fun (el:(List C))=>((List.length el)==3)))&&(List.all (EC.encL q26l b0) (fun (el:(List C))=>((List.length el)==3))))&&(decide (((((out+(List.length [[(C.bool false),(C.bool false),(C.int Go.IntKind.u8 (((UInt8.toNat (Array.getD (ByteArray.data p) (Int.toNat i) (0:UInt8))):Nat):Int))]]))+((out+(List.length [[(C.bool false),(C.bool false),(C.int Go.IntKind.u8 (((UInt8.toNat (Array.getD (ByteArray.data p) (Int.toNat i) (0:UInt8))):Nat):Int))]])) / 4))+192)*3)≤281474976710656)))&&(decide ((out+(List.length [[(C.bool false),(C.bool false),(C.int Go.IntKind.u8 (((UInt8.toNat (Array.getD (ByteArray.data p) (Int.toNat i) (0:UInt8))):Nat):Int))]]))≤9223372036854775807))) <|
 (gdE (EC.isL q26l ((EC.encL q26l b0)++[[(C.bool false),(C.bool false),(C.int Go.IntKind.u8 (((UInt8.toNat (Array.getD (ByteArray.data p) (Int.toNat i) (0:UInt8))):Nat):Int))]])) <|
 (qq6 p (out+(List.length [[(C.bool false),(C.bool false),(C.int Go.IntKind.u8 (((UInt8.toNat (Array.getD (ByteArray.data p) (Int.toNat i) (0:UInt8))):Nat):Int))]])) (IntKind.wrap .i64 (i+1)) (EC.decL q26l ((EC.encL q26l b0)++[[(C.bool false),(C.bool false),(C.int Go.IntKind.u8 (((UInt8.toNat (Array.getD (ByteArray.data p) (Int.toNat i) (0:UInt8))):Nat):Int))]]))))))))))
 (gdE (EC.isL q26l (EC.encL q26l b0)) <|
 (some (.inr ((p,(out,(i,false))),(EC.decL q26l (EC.encL q26l b0)))))))
theorem qq8 {p} {out} {i} {b0} {r} (h:qqd p out i b0=some r):qq6 p out i b0=some r :=
 qm5 (es:=qzs) (hs:=[]) [] (by kernel_rfl) trivial trivial (by kernel_rfl) h
def qq7:=q27d Tryz.prog lv X0 3 (q270 (cdF Tryz.f152) 3) qqc qq9 (fun x=>qq6 x.1.1 x.1.2.1 x.1.2.2 x.2) (fun _ _ h=>qm4 h)
def qq3:Cod (V × List B) ((Nat × Bool) × (List S192)):=(cPair (vTup (q279 (vRow 0) (q27b (vC cBool)))) (q27b (bRow q26l)))
def qqe (p:ByteArray):Option ((Nat × Bool) × (List S192)):=fS Tryz.prog lv X0 152 qq2 qq3 p
def qqf (p:ByteArray):Option ((Nat × Bool) × (List S192)) :=
 (Option.bind (qq6 p 0 0 (EC.decL q26l [])) fun r0 =>
 (Sum.elim (fun r1=>(gdE (EC.isL q26l (EC.encL q26l r1.2)) <|
 (some ((r1.1.1,r1.1.2),(EC.decL q26l (EC.encL q26l r1.2))))))
 (fun r1=>(gdE (EC.isL q26l (EC.encL q26l r1.2)) <|
 (some ((r1.1.2.1,true),(EC.decL q26l (EC.encL q26l r1.2)))))) r0))
theorem qq5 {p} {r} (h:qqf p=some r):qqe p=some r :=
 qf2 (es:=qzs) (hs:=[]) [qq7] Tryz.func152 rfl (by kernel_rfl) rfl (by kernel_rfl) (by kernel_rfl) ⟨⟨_,rfl,rfl⟩,trivial⟩ trivial (by kernel_rfl) h
def qq4:=entS Tryz.prog lv X0 152 [] qq2 qq3 (fun x=>qqe x) (fun _ _ h=>qf1 h)
def q10d:=qq4::qzs
def qfd:=(q279 (vAgg (q279 (vC cBool) (q279 (vC cBool) (q27b (vC (cInt .u8)))))) (q279 (vC (cInt .i64)) (q279 (vEptr (q27b cStr) 0) (q27b (vEptr (q27b cStr) 0)))))
def qfe:Cod (V × List B) Bool:=(cFstU (cPair (vC cBool) q27a))
def fits_s (e_one:Bool) (e_many:Bool) (e_c:Int) (j:Int) (c2:ByteArray) (c3:ByteArray):Option Bool:=fS Tryz.prog lv X0 165 qfd qfe ((e_one,e_many,e_c),j,c2,c3)
def fits_t (e_one:Bool) (e_many:Bool) (e_c:Int) (j:Int) (c2:ByteArray) (c3:ByteArray):Option Bool :=
 (brE ((decide (j<(c2.size:Int)))==true)
 (brE (e_one==false)
 (Option.bind (q5w (ByteArray.mk (List.toArray [(UInt8.ofNat (Int.toNat e_c))]))) fun r0 =>
 (gdE ((decide (0≤(IntKind.wrap .i64 (j+1))))&&(decide ((IntKind.wrap .i64 (j+1))≤(c3.size:Int)))) <|
 (gdE ((decide (0≤j))&&(decide (j≤(((Int.toNat (IntKind.wrap .i64 (j+1))):Nat):Int)))) <|
 (some ((ByteArray.toList r0)==(ByteArray.toList (ByteArray.extract c3 (Int.toNat j) (Int.toNat (IntKind.wrap .i64 (j+1))))))))))
 (some true))
 (some false))
theorem qff {e_one} {e_many} {e_c} {j} {c2} {c3} {r} (h:fits_t e_one e_many e_c j c2 c3=some r):fits_s e_one e_many e_c j c2 c3=some r :=
 qf2 (es:=q10d) (hs:=[]) [] Tryz.func165 rfl (by kernel_rfl) rfl (by kernel_rfl) (by kernel_rfl) trivial trivial (by kernel_rfl) h
def fits_e:=entS Tryz.prog lv X0 165 [] qfd qfe (fun x=>fits_s x.1.1 x.1.2.1 x.1.2.2 x.2.1 x.2.2.1 x.2.2.2) (fun _ _ h=>qf1 h)
def qzv:=fits_e::q10d
def q26n:EC Bool where
 enc x:=[.bool x]
 dec c:=q26h (c.getD 0 .ne)
 is c:=isE [.bool] 0 c
 enc_dec h:=q8r h
 dec_enc x:=by rfl
 is_enc x:=by simp [isE,isK]
theorem enc_4 (x:Bool):q26n.enc x=[.bool x]:=rfl
theorem q274 (xs:List Bool) (n:Nat):isE [.bool] 0 ((q26n.encL xs).getD n [])=decide (n<xs.length):=by
 by_cases h:n<xs.length
 ·simp only [EC.getD_lt _ _ h];simp [enc_4,isE,isK,h]
 ·simp only [EC.getD_ge _ _ (Nat.not_lt.1 h)];simp [isE,isK,h]
theorem q26b (xs:List Bool) (n:Nat):q26h (((q26n.encL xs).getD n []).getD 0 .ne)=(xs.getD n (q26n.dec [])):=by
 by_cases h:n<xs.length
 ·simp only [EC.getD_lt _ _ h];simp [enc_4,h,q26h,List.getD_eq_getElem?_getD]
 ·simp only [EC.getD_ge _ _ (Nat.not_lt.1 h)];simp [Nat.not_lt.1 h,q26n,q26h,List.getD_eq_getElem?_getD]
theorem q27c (xs:List Bool) (n:Nat) (h:n<xs.length):((q26n.encL xs).getD n []).length=1:=by rw [EC.getD_lt _ _ h];rfl
theorem qxe (xs:List Bool) (n:Nat) (a0:Bool):(q26n.encL xs).set n (splice ((q26n.encL xs).getD n []) 0 [.bool a0])=q26n.encL (xs.set n (a0)):=by
 by_cases h:n<xs.length
 ·rw [EC.getD_lt _ _ h];simp [EC.encL,List.map_set,enc_4,splice]
 ·simp [EC.encL,List.set_eq_of_length_le,Nat.not_lt.1 h]
def q26u:EC (List Bool) where
 enc x:=[.sl (q26n.encL x)]
 dec c:=q26n.decL (slOf (c.getD 0 .ne))
 is c:=isE [.sl] 0 c&&q26n.isL (slOf (c.getD 0 .ne))
 enc_dec h:=by
  simp only [Bool.and_eq_true] at h
  have h0:=q8r h.1
  simp only [decE,decC] at h0
  simp only [EC.encL_decL _ h.2]
  exact h0
 dec_enc x:=by simp [slOf]
 is_enc x:=by simp [isE,isK,slOf]
theorem enc_75 (x:(List Bool)):q26u.enc x=[.sl (q26n.encL x)]:=rfl
theorem q4h (xs:List (List Bool)) (n:Nat):slOf (((q26u.encL xs).getD n []).getD 0 .ne)=q26n.encL (xs.getD n (q26u.dec [])):=by
 by_cases h:n<xs.length
 ·simp only [EC.getD_lt _ _ h];simp [enc_75,h,slOf,List.getD_eq_getElem?_getD]
 ·simp only [EC.getD_ge _ _ (Nat.not_lt.1 h)];simp [Nat.not_lt.1 h,q26u,slOf,List.getD_eq_getElem?_getD,EC.decL,EC.encL]
theorem len_75 (xs:List (List Bool)) (n:Nat) (h:n<xs.length):((q26u.encL xs).getD n []).length=1:=by rw [EC.getD_lt _ _ h];rfl
def qqg:=(q279 (vC (cSl q26l)) (q27b (vC cStr)))
def qra:=sLS [0,3,7,8,9,10] (q279 (vC (cSl q26l)) (q279 (vPtr 0 0) (q279 (vFn 165 (q279 (vPtr 0 0) (q27b (vPtr 1 0)))) (q279 (vRow 2) (q279 (vC (cInt .i64)) (q27b (vC (cInt .i64)))))))) (q279 (q27g (bBox (q27b (vC cStr)))) (q279 (q27g (bBox (q27b (vC cStr)))) (q279 (q27g (bTab q26u (vRow 3))) (q27b (q27g (bRow q26n)))))) [false,false,false,false] [] (by decide) (fun _=>rfl)
def qr9:=sLS [0,3,7,8,9,10,39] (q279 (vC (cSl q26l)) (q279 (vPtr 0 0) (q279 (vFn 165 (q279 (vPtr 0 0) (q27b (vPtr 1 0)))) (q279 (vRow 2) (q279 (vC (cInt .i64)) (q279 (vC (cInt .i64)) (q27b (vC cBool)))))))) (q279 (q27g (bBox (q27b (vC cStr)))) (q279 (q27g (bBox (q27b (vC cStr)))) (q279 (q27g (bTab q26u (vRow 3))) (q27b (q27g (bRow q26n)))))) [false,false,false,false] [] (by decide) (fun _=>rfl)
def qr8:=oAt 4 qr9
def qr5 (l:(List S192)) (can:Nat) (i:Int) (j:Int) (b0:ByteArray) (b1:ByteArray) (b2:(List (List Bool))) (b2_1:Nat) (b2_2:Nat) (b3:(List Bool)):Option (((List S192) × Unit × (Unit × Unit) × Nat × Int × Int × Bool) × (ByteArray × ByteArray × ((List (List Bool)) × Nat × Nat) × (List Bool))):=lS Tryz.prog lv X0 155 166 (q270 (cdF Tryz.f155) 9) qra qr8 ((l,(),((),()),can,i,j),(b0,b1,(b2,b2_1,b2_2),b3))
def qrb (l:(List S192)) (can:Nat) (i:Int) (j:Int) (b0:ByteArray) (b1:ByteArray) (b2:(List (List Bool))) (b2_1:Nat) (b2_2:Nat) (b3:(List Bool)):Option (((List S192) × Unit × (Unit × Unit) × Nat × Int × Int × Bool) × (ByteArray × ByteArray × ((List (List Bool)) × Nat × Nat) × (List Bool))) :=
 (brE (decide (j ≥ 0))
 (brE (i==(List.length (EC.encL q26l l):Int))
 (gdE ((decide (0≤i))&&(decide (i<((can:Nat):Int)))) <|
 (gdE (decide ((Int.toNat i)<(List.length (EC.encL q26u b2)))) <|
 (brE ((Int.toNat i)==b2_1)
 (gdE ((decide (0≤j))&&(decide (j<((b2_2:Nat):Int)))) <|
 (gdE ((decide ((Int.toNat j)<(List.length (EC.encL q26n b3))))&&((List.length (List.getD (EC.encL q26n b3) (Int.toNat j) []))==1)) <|
 (gdE (EC.isL q26l (EC.encL q26l l)) <|
 (gdE (EC.isL q26u (EC.encL q26u b2)) <|
 (gdE (EC.isL q26n (List.set (EC.encL q26n b3) (Int.toNat j) (splice (List.getD (EC.encL q26n b3) (Int.toNat j) []) 0 [(C.bool (j==(b0.size:Int)))]))) <|
 (qr5 (EC.decL q26l (EC.encL q26l l)) can i (IntKind.wrap .i64 (j - 1)) b0 b1 (EC.decL q26u (EC.encL q26u b2)) b2_1 b2_2 (EC.decL q26n (List.set (EC.encL q26n b3) (Int.toNat j) (splice (List.getD (EC.encL q26n b3) (Int.toNat j) []) 0 [(C.bool (j==(b0.size:Int)))])))))))))
 (gdE ((List.length (List.getD (EC.encL q26u b2) (Int.toNat i) []))==1) <|
 (gdE (isP [K1.sl] 0 (List.getD (EC.encL q26u b2) (Int.toNat i) [])) <|
 (gdE (decide (0≤j)) <|
 (gdE ((decide ((Int.toNat j)<(List.length (slOf (List.getD (List.getD (EC.encL q26u b2) (Int.toNat i) []) 0 C.ne)))))&&(isE [K1.bool] 0 (List.getD (slOf (List.getD (List.getD (EC.encL q26u b2) (Int.toNat i) []) 0 C.ne)) (Int.toNat j) []))) <|
 none)))))))
 (gdE (decide (0≤i)) <|
 (gdE ((decide ((Int.toNat i)<(List.length (EC.encL q26l l))))&&(isE [K1.bool,K1.bool,(K1.int Go.IntKind.u8)] 0 (List.getD (EC.encL q26l l) (Int.toNat i) []))) <|
 (brE (q26h (List.getD (List.getD (EC.encL q26l l) (Int.toNat i) []) 1 C.ne))
 (gdE ((decide (0≤i))&&(decide (i<((can:Nat):Int)))) <|
 (gdE (decide ((Int.toNat i)<(List.length (EC.encL q26u b2)))) <|
 (brE ((Int.toNat i)==b2_1)
 (gdE ((decide (0≤(IntKind.wrap .i64 (i+1))))&&(decide ((IntKind.wrap .i64 (i+1))<((can:Nat):Int)))) <|
 (gdE (decide ((Int.toNat (IntKind.wrap .i64 (i+1)))<(List.length (EC.encL q26u b2)))) <|
 (brE ((Int.toNat (IntKind.wrap .i64 (i+1)))==b2_1)
 (gdE ((decide (0≤j))&&(decide (j<((b2_2:Nat):Int)))) <|
 (gdE ((decide ((Int.toNat j)<(List.length (EC.encL q26n b3))))&&((List.length (List.getD (EC.encL q26n b3) (Int.toNat j) []))==1)) <|
 (gdE (isP [K1.bool] 0 (List.getD (EC.encL q26n b3) (Int.toNat j) [])) <|
 (brE ((q26h (List.getD (List.getD (EC.encL q26n b3) (Int.toNat j) []) 0 C.ne))==false)
 (brE ((decide (j<(b0.size:Int)))==true)
 (gdE ((decide (0≤i))&&(decide (i<((can:Nat):Int)))) <|
 (gdE (decide ((Int.toNat i)<(List.length (EC.encL q26u b2)))) <|
 (brE ((Int.toNat i)==b2_1)
 (gdE ((decide (0≤(IntKind.wrap .i64 (j+1))))&&(decide ((IntKind.wrap .i64 (j+1))<((b2_2:Nat):Int)))) <|
 (gdE ((decide ((Int.toNat (IntKind.wrap .i64 (j+1)))<(List.length (EC.encL q26n b3))))&&((List.length (List.getD (EC.encL q26n b3) (Int.toNat (IntKind.wrap .i64 (j+1))) []))==1)) <|
 (gdE (isP [K1.bool] 0 (List.getD (EC.encL q26n b3) (Int.toNat (IntKind.wrap .i64 (j+1))) [])) <|
 (gdE ((decide (0≤j))&&(decide (j<((b2_2:Nat):Int)))) <|
 (gdE ((decide ((Int.toNat j)<(List.length (EC.encL q26n b3))))&&((List.length (List.getD (EC.encL q26n b3) (Int.toNat j) []))==1)) <|
 (gdE (EC.isL q26l (EC.encL q26l l)) <|
 (gdE (EC.isL q26u (EC.encL q26u b2)) <|
 (gdE (EC.isL q26n (List.set (EC.encL q26n b3) (Int.toNat j) (splice (List.getD (EC.encL q26n b3) (Int.toNat j) []) 0 [(C.bool (q26h (List.getD (List.getD (EC.encL q26n b3) (Int.toNat (IntKind.wrap .i64 (j+1))) []) 0 C.ne)))]))) <|
 (qr5 (EC.decL q26l (EC.encL q26l l)) can i (IntKind.wrap .i64 (j - 1)) b0 b1 (EC.decL q26u (EC.encL q26u b2)) b2_1 b2_2 (EC.decL q26n (List.set (EC.encL q26n b3) (Int.toNat j) (splice (List.getD (EC.encL q26n b3) (Int.toNat j) []) 0 [(C.bool (q26h (List.getD (List.getD (EC.encL q26n b3) (Int.toNat (IntKind.wrap .i64 (j+1))) []) 0 C.ne)))]))))))))))))
 (gdE ((List.length (List.getD (EC.encL q26u b2) (Int.toNat i) []))==1) <|
 (gdE (isP [K1.sl] 0 (List.getD (EC.encL q26u b2) (Int.toNat i) [])) <|
 (gdE (decide (0≤(IntKind.wrap .i64 (j+1)))) <|
 (gdE ((decide ((Int.toNat (IntKind.wrap .i64 (j+1)))<(List.length (slOf (List.getD (List.getD (EC.encL q26u b2) (Int.toNat i) []) 0 C.ne)))))&&(isE [K1.bool] 0 (List.getD (slOf (List.getD (List.getD (EC.encL q26u b2) (Int.toNat i) []) 0 C.ne)) (Int.toNat (IntKind.wrap .i64 (j+1))) []))) <|
 (gdE ((decide (0≤j))&&(decide (j<((b2_2:Nat):Int)))) <|
 (gdE ((decide ((Int.toNat j)<(List.length (EC.encL q26n b3))))&&((List.length (List.getD (EC.encL q26n b3) (Int.toNat j) []))==1)) <|
 (gdE (EC.isL q26l (EC.encL q26l l)) <|
 (gdE (EC.isL q26u (EC.encL q26u b2)) <|
 (gdE (EC.isL q26n (List.set (EC.encL q26n b3) (Int.toNat j) (splice (List.getD (EC.encL q26n b3) (Int.toNat j) []) 0 [(C.bool (q26h (List.getD (List.getD (slOf (List.getD (List.getD (EC.encL q26u b2) (Int.toNat i) []) 0 C.ne)) (Int.toNat (IntKind.wrap .i64 (j+1))) []) 0 C.ne)))]))) <|
 (qr5 (EC.decL q26l (EC.encL q26l l)) can i (IntKind.wrap .i64 (j - 1)) b0 b1 (EC.decL q26u (EC.encL q26u b2)) b2_1 b2_2 (EC.decL q26n (List.set (EC.encL q26n b3) (Int.toNat j) (splice (List.getD (EC.encL q26n b3) (Int.toNat j) []) 0 [(C.bool (q26h (List.getD (List.getD (slOf (List.getD (List.getD (EC.encL q26u b2) (Int.toNat i) []) 0 C.ne)) (Int.toNat (IntKind.wrap .i64 (j+1))) []) 0 C.ne)))]))))))))))))))))
 (gdE ((decide (0≤j))&&(decide (j<((b2_2:Nat):Int)))) <|
 (gdE ((decide ((Int.toNat j)<(List.length (EC.encL q26n b3))))&&((List.length (List.getD (EC.encL q26n b3) (Int.toNat j) []))==1)) <|
 (gdE (EC.isL q26l (EC.encL q26l l)) <|
 (gdE (EC.isL q26u (EC.encL q26u b2)) <|
 (gdE (EC.isL q26n (List.set (EC.encL q26n b3) (Int.toNat j) (splice (List.getD (EC.encL q26n b3) (Int.toNat j) []) 0 [(C.bool false)]))) <|
 (qr5 (EC.decL q26l (EC.encL q26l l)) can i (IntKind.wrap .i64 (j - 1)) b0 b1 (EC.decL q26u (EC.encL q26u b2)) b2_1 b2_2 (EC.decL q26n (List.set (EC.encL q26n b3) (Int.toNat j) (splice (List.getD (EC.encL q26n b3) (Int.toNat j) []) 0 [(C.bool false)]))))))))))
 (gdE ((decide (0≤j))&&(decide (j<((b2_2:Nat):Int)))) <|
 (gdE ((decide ((Int.toNat j)<(List.length (EC.encL q26n b3))))&&((List.length (List.getD (EC.encL q26n b3) (Int.toNat j) []))==1)) <|
 (gdE (EC.isL q26l (EC.encL q26l l)) <|
 (gdE (EC.isL q26u (EC.encL q26u b2)) <|
 (gdE (EC.isL q26n (List.set (EC.encL q26n b3) (Int.toNat j) (splice (List.getD (EC.encL q26n b3) (Int.toNat j) []) 0 [(C.bool true)]))) <|
 (qr5 (EC.decL q26l (EC.encL q26l l)) can i (IntKind.wrap .i64 (j - 1)) b0 b1 (EC.decL q26u (EC.encL q26u b2)) b2_1 b2_2 (EC.decL q26n (List.set (EC.encL q26n b3) (Int.toNat j) (splice (List.getD (EC.encL q26n b3) (Int.toNat j) []) 0 [(C.bool true)])))))))))))))
 (gdE ((List.length (List.getD (EC.encL q26u b2) (Int.toNat (IntKind.wrap .i64 (i+1))) []))==1) <|
 (gdE (isP [K1.sl] 0 (List.getD (EC.encL q26u b2) (Int.toNat (IntKind.wrap .i64 (i+1))) [])) <|
 (gdE (decide (0≤j)) <|
 (gdE ((decide ((Int.toNat j)<(List.length (slOf (List.getD (List.getD (EC.encL q26u b2) (Int.toNat (IntKind.wrap .i64 (i+1))) []) 0 C.ne)))))&&(isE [K1.bool] 0 (List.getD (slOf (List.getD (List.getD (EC.encL q26u b2) (Int.toNat (IntKind.wrap .i64 (i+1))) []) 0 C.ne)) (Int.toNat j) []))) <|
 (brE ((q26h (List.getD (List.getD (slOf (List.getD (List.getD (EC.encL q26u b2) (Int.toNat (IntKind.wrap .i64 (i+1))) []) 0 C.ne)) (Int.toNat j) []) 0 C.ne))==false)
 (brE ((decide (j<(b0.size:Int)))==true)
 (gdE ((decide (0≤i))&&(decide (i<((can:Nat):Int)))) <|
 (gdE (decide ((Int.toNat i)<(List.length (EC.encL q26u b2)))) <|
 (brE ((Int.toNat i)==b2_1)
 (gdE ((decide (0≤(IntKind.wrap .i64 (j+1))))&&(decide ((IntKind.wrap .i64 (j+1))<((b2_2:Nat):Int)))) <|
 (gdE ((decide ((Int.toNat (IntKind.wrap .i64 (j+1)))<(List.length (EC.encL q26n b3))))&&((List.length (List.getD (EC.encL q26n b3) (Int.toNat (IntKind.wrap .i64 (j+1))) []))==1)) <|
 (gdE (isP [K1.bool] 0 (List.getD (EC.encL q26n b3) (Int.toNat (IntKind.wrap .i64 (j+1))) [])) <|
 (gdE ((decide (0≤j))&&(decide (j<((b2_2:Nat):Int)))) <|
 (gdE ((decide ((Int.toNat j)<(List.length (EC.encL q26n b3))))&&((List.length (List.getD (EC.encL q26n b3) (Int.toNat j) []))==1)) <|
 (gdE (EC.isL q26l (EC.encL q26l l)) <|
 (gdE (EC.isL q26u (EC.encL q26u b2)) <|
 (gdE (EC.isL q26n (List.set (EC.encL q26n b3) (Int.toNat j) (splice (List.getD (EC.encL q26n b3) (Int.toNat j) []) 0 [(C.bool (q26h (List.getD (List.getD (EC.encL q26n b3) (Int.toNat (IntKind.wrap .i64 (j+1))) []) 0 C.ne)))]))) <|
 (qr5 (EC.decL q26l (EC.encL q26l l)) can i (IntKind.wrap .i64 (j - 1)) b0 b1 (EC.decL q26u (EC.encL q26u b2)) b2_1 b2_2 (EC.decL q26n (List.set (EC.encL q26n b3) (Int.toNat j) (splice (List.getD (EC.encL q26n b3) (Int.toNat j) []) 0 [(C.bool (q26h (List.getD (List.getD (EC.encL q26n b3) (Int.toNat (IntKind.wrap .i64 (j+1))) []) 0 C.ne)))]))))))))))))
 (gdE ((List.length (List.getD (EC.encL q26u b2) (Int.toNat i) []))==1) <|
 (gdE (isP [K1.sl] 0 (List.getD (EC.encL q26u b2) (Int.toNat i) [])) <|
 (gdE (decide (0≤(IntKind.wrap .i64 (j+1)))) <|
 (gdE ((decide ((Int.toNat (IntKind.wrap .i64 (j+1)))<(List.length (slOf (List.getD (List.getD (EC.encL q26u b2) (Int.toNat i) []) 0 C.ne)))))&&(isE [K1.bool] 0 (List.getD (slOf (List.getD (List.getD (EC.encL q26u b2) (Int.toNat i) []) 0 C.ne)) (Int.toNat (IntKind.wrap .i64 (j+1))) []))) <|
 (gdE ((decide (0≤j))&&(decide (j<((b2_2:Nat):Int)))) <|
 (gdE ((decide ((Int.toNat j)<(List.length (EC.encL q26n b3))))&&((List.length (List.getD (EC.encL q26n b3) (Int.toNat j) []))==1)) <|
 (gdE (EC.isL q26l (EC.encL q26l l)) <|
 (gdE (EC.isL q26u (EC.encL q26u b2)) <|
 (gdE (EC.isL q26n (List.set (EC.encL q26n b3) (Int.toNat j) (splice (List.getD (EC.encL q26n b3) (Int.toNat j) []) 0 [(C.bool (q26h (List.getD (List.getD (slOf (List.getD (List.getD (EC.encL q26u b2) (Int.toNat i) []) 0 C.ne)) (Int.toNat (IntKind.wrap .i64 (j+1))) []) 0 C.ne)))]))) <|
 (qr5 (EC.decL q26l (EC.encL q26l l)) can i (IntKind.wrap .i64 (j - 1)) b0 b1 (EC.decL q26u (EC.encL q26u b2)) b2_1 b2_2 (EC.decL q26n (List.set (EC.encL q26n b3) (Int.toNat j) (splice (List.getD (EC.encL q26n b3) (Int.toNat j) []) 0 [(C.bool (q26h (List.getD (List.getD (slOf (List.getD (List.getD (EC.encL q26u b2) (Int.toNat i) []) 0 C.ne)) (Int.toNat (IntKind.wrap .i64 (j+1))) []) 0 C.ne)))]))))))))))))))))
 (gdE ((decide (0≤j))&&(decide (j<((b2_2:Nat):Int)))) <|
 (gdE ((decide ((Int.toNat j)<(List.length (EC.encL q26n b3))))&&((List.length (List.getD (EC.encL q26n b3) (Int.toNat j) []))==1)) <|
 (gdE (EC.isL q26l (EC.encL q26l l)) <|
 (gdE (EC.isL q26u (EC.encL q26u b2)) <|
 (gdE (EC.isL q26n (List.set (EC.encL q26n b3) (Int.toNat j) (splice (List.getD (EC.encL q26n b3) (Int.toNat j) []) 0 [(C.bool false)]))) <|
 (qr5 (EC.decL q26l (EC.encL q26l l)) can i (IntKind.wrap .i64 (j - 1)) b0 b1 (EC.decL q26u (EC.encL q26u b2)) b2_1 b2_2 (EC.decL q26n (List.set (EC.encL q26n b3) (Int.toNat j) (splice (List.getD (EC.encL q26n b3) (Int.toNat j) []) 0 [(C.bool false)]))))))))))
 (gdE ((decide (0≤j))&&(decide (j<((b2_2:Nat):Int)))) <|
 (gdE ((decide ((Int.toNat j)<(List.length (EC.encL q26n b3))))&&((List.length (List.getD (EC.encL q26n b3) (Int.toNat j) []))==1)) <|
 (gdE (EC.isL q26l (EC.encL q26l l)) <|
 (gdE (EC.isL q26u (EC.encL q26u b2)) <|
 (gdE (EC.isL q26n (List.set (EC.encL q26n b3) (Int.toNat j) (splice (List.getD (EC.encL q26n b3) (Int.toNat j) []) 0 [(C.bool true)]))) <|
 (qr5 (EC.decL q26l (EC.encL q26l l)) can i (IntKind.wrap .i64 (j - 1)) b0 b1 (EC.decL q26u (EC.encL q26u b2)) b2_1 b2_2 (EC.decL q26n (List.set (EC.encL q26n b3) (Int.toNat j) (splice (List.getD (EC.encL q26n b3) (Int.toNat j) []) 0 [(C.bool true)])))))))))))))))))
 (gdE ((List.length (List.getD (EC.encL q26u b2) (Int.toNat i) []))==1) <|
 (gdE (isP [K1.sl] 0 (List.getD (EC.encL q26u b2) (Int.toNat i) [])) <|
 (gdE ((decide (0≤(IntKind.wrap .i64 (i+1))))&&(decide ((IntKind.wrap .i64 (i+1))<((can:Nat):Int)))) <|
 (gdE (decide ((Int.toNat (IntKind.wrap .i64 (i+1)))<(List.length (EC.encL q26u b2)))) <|
 (brE ((Int.toNat (IntKind.wrap .i64 (i+1)))==b2_1)
 (gdE ((decide (0≤j))&&(decide (j<((b2_2:Nat):Int)))) <|
 (gdE ((decide ((Int.toNat j)<(List.length (EC.encL q26n b3))))&&((List.length (List.getD (EC.encL q26n b3) (Int.toNat j) []))==1)) <|
 (gdE (isP [K1.bool] 0 (List.getD (EC.encL q26n b3) (Int.toNat j) [])) <|
 (brE ((q26h (List.getD (List.getD (EC.encL q26n b3) (Int.toNat j) []) 0 C.ne))==false)
 (brE ((decide (j<(b0.size:Int)))==true)
 (gdE ((decide (0≤i))&&(decide (i<((can:Nat):Int)))) <|
 (gdE (decide ((Int.toNat i)<(List.length (EC.encL q26u b2)))) <|
 (brE ((Int.toNat i)==b2_1)
 (gdE ((decide (0≤(IntKind.wrap .i64 (j+1))))&&(decide ((IntKind.wrap .i64 (j+1))<((b2_2:Nat):Int)))) <|
 (gdE ((decide ((Int.toNat (IntKind.wrap .i64 (j+1)))<(List.length (EC.encL q26n b3))))&&((List.length (List.getD (EC.encL q26n b3) (Int.toNat (IntKind.wrap .i64 (j+1))) []))==1)) <|
 (gdE (isP [K1.bool] 0 (List.getD (EC.encL q26n b3) (Int.toNat (IntKind.wrap .i64 (j+1))) [])) <|
 (gdE (decide (0≤j)) <|
 (gdE ((decide ((Int.toNat j)<(List.length (slOf (List.getD (List.getD (EC.encL q26u b2) (Int.toNat i) []) 0 C.ne)))))&&(isE [K1.bool] 0 (List.getD (slOf (List.getD (List.getD (EC.encL q26u b2) (Int.toNat i) []) 0 C.ne)) (Int.toNat j) []))) <|
 none)))))
 (gdE ((List.length (List.getD (EC.encL q26u b2) (Int.toNat i) []))==1) <|
 (gdE (isP [K1.sl] 0 (List.getD (EC.encL q26u b2) (Int.toNat i) [])) <|
 (gdE (decide (0≤(IntKind.wrap .i64 (j+1)))) <|
 (gdE ((decide ((Int.toNat (IntKind.wrap .i64 (j+1)))<(List.length (slOf (List.getD (List.getD (EC.encL q26u b2) (Int.toNat i) []) 0 C.ne)))))&&(isE [K1.bool] 0 (List.getD (slOf (List.getD (List.getD (EC.encL q26u b2) (Int.toNat i) []) 0 C.ne)) (Int.toNat (IntKind.wrap .i64 (j+1))) []))) <|
 (gdE (decide (0≤j)) <|
 (gdE ((decide ((Int.toNat j)<(List.length (slOf (List.getD (List.getD (EC.encL q26u b2) (Int.toNat i) []) 0 C.ne)))))&&(isE [K1.bool] 0 (List.getD (slOf (List.getD (List.getD (EC.encL q26u b2) (Int.toNat i) []) 0 C.ne)) (Int.toNat j) []))) <|
 none)))))))))
 (gdE (decide (0≤j)) <|
 (gdE ((decide ((Int.toNat j)<(List.length (slOf (List.getD (List.getD (EC.encL q26u b2) (Int.toNat i) []) 0 C.ne)))))&&(isE [K1.bool] 0 (List.getD (slOf (List.getD (List.getD (EC.encL q26u b2) (Int.toNat i) []) 0 C.ne)) (Int.toNat j) []))) <|
 none)))
 (gdE (decide (0≤j)) <|
 (gdE ((decide ((Int.toNat j)<(List.length (slOf (List.getD (List.getD (EC.encL q26u b2) (Int.toNat i) []) 0 C.ne)))))&&(isE [K1.bool] 0 (List.getD (slOf (List.getD (List.getD (EC.encL q26u b2) (Int.toNat i) []) 0 C.ne)) (Int.toNat j) []))) <|
 none))))))
 (gdE ((List.length (List.getD (EC.encL q26u b2) (Int.toNat (IntKind.wrap .i64 (i+1))) []))==1) <|
 (gdE (isP [K1.sl] 0 (List.getD (EC.encL q26u b2) (Int.toNat (IntKind.wrap .i64 (i+1))) [])) <|
 (gdE (decide (0≤j)) <|
 (gdE ((decide ((Int.toNat j)<(List.length (slOf (List.getD (List.getD (EC.encL q26u b2) (Int.toNat (IntKind.wrap .i64 (i+1))) []) 0 C.ne)))))&&(isE [K1.bool] 0 (List.getD (slOf (List.getD (List.getD (EC.encL q26u b2) (Int.toNat (IntKind.wrap .i64 (i+1))) []) 0 C.ne)) (Int.toNat j) []))) <|
 (brE ((q26h (List.getD (List.getD (slOf (List.getD (List.getD (EC.encL q26u b2) (Int.toNat (IntKind.wrap .i64 (i+1))) []) 0 C.ne)) (Int.toNat j) []) 0 C.ne))==false)
 (brE ((decide (j<(b0.size:Int)))==true)
 (gdE ((decide (0≤i))&&(decide (i<((can:Nat):Int)))) <|
 (gdE (decide ((Int.toNat i)<(List.length (EC.encL q26u b2)))) <|
 (brE ((Int.toNat i)==b2_1)
 (gdE ((decide (0≤(IntKind.wrap .i64 (j+1))))&&(decide ((IntKind.wrap .i64 (j+1))<((b2_2:Nat):Int)))) <|
 (gdE ((decide ((Int.toNat (IntKind.wrap .i64 (j+1)))<(List.length (EC.encL q26n b3))))&&((List.length (List.getD (EC.encL q26n b3) (Int.toNat (IntKind.wrap .i64 (j+1))) []))==1)) <|
 (gdE (isP [K1.bool] 0 (List.getD (EC.encL q26n b3) (Int.toNat (IntKind.wrap .i64 (j+1))) [])) <|
 (gdE (decide (0≤j)) <|
 (gdE ((decide ((Int.toNat j)<(List.length (slOf (List.getD (List.getD (EC.encL q26u b2) (Int.toNat i) []) 0 C.ne)))))&&(isE [K1.bool] 0 (List.getD (slOf (List.getD (List.getD (EC.encL q26u b2) (Int.toNat i) []) 0 C.ne)) (Int.toNat j) []))) <|
 none)))))
 (gdE ((List.length (List.getD (EC.encL q26u b2) (Int.toNat i) []))==1) <|
 (gdE (isP [K1.sl] 0 (List.getD (EC.encL q26u b2) (Int.toNat i) [])) <|
 (gdE (decide (0≤(IntKind.wrap .i64 (j+1)))) <|
 (gdE ((decide ((Int.toNat (IntKind.wrap .i64 (j+1)))<(List.length (slOf (List.getD (List.getD (EC.encL q26u b2) (Int.toNat i) []) 0 C.ne)))))&&(isE [K1.bool] 0 (List.getD (slOf (List.getD (List.getD (EC.encL q26u b2) (Int.toNat i) []) 0 C.ne)) (Int.toNat (IntKind.wrap .i64 (j+1))) []))) <|
 (gdE (decide (0≤j)) <|
 (gdE ((decide ((Int.toNat j)<(List.length (slOf (List.getD (List.getD (EC.encL q26u b2) (Int.toNat i) []) 0 C.ne)))))&&(isE [K1.bool] 0 (List.getD (slOf (List.getD (List.getD (EC.encL q26u b2) (Int.toNat i) []) 0 C.ne)) (Int.toNat j) []))) <|
 none)))))))))
 (gdE (decide (0≤j)) <|
 (gdE ((decide ((Int.toNat j)<(List.length (slOf (List.getD (List.getD (EC.encL q26u b2) (Int.toNat i) []) 0 C.ne)))))&&(isE [K1.bool] 0 (List.getD (slOf (List.getD (List.getD (EC.encL q26u b2) (Int.toNat i) []) 0 C.ne)) (Int.toNat j) []))) <|
 none)))
 (gdE (decide (0≤j)) <|
 (gdE ((decide ((Int.toNat j)<(List.length (slOf (List.getD (List.getD (EC.encL q26u b2) (Int.toNat i) []) 0 C.ne)))))&&(isE [K1.bool] 0 (List.getD (slOf (List.getD (List.getD (EC.encL q26u b2) (Int.toNat i) []) 0 C.ne)) (Int.toNat j) []))) <|
 none)))))))))))))))
 (gdE ((decide (0≤i))&&(decide (i<((can:Nat):Int)))) <|
 (gdE (decide ((Int.toNat i)<(List.length (EC.encL q26u b2)))) <|
 (brE ((Int.toNat i)==b2_1)
 (gdE (decide (0≤i)) <|
 (gdE ((decide ((Int.toNat i)<(List.length (EC.encL q26l l))))&&(isE [K1.bool,K1.bool,(K1.int Go.IntKind.u8)] 0 (List.getD (EC.encL q26l l) (Int.toNat i) []))) <|
 (Option.bind (fits_s (q26h (List.getD (List.getD (EC.encL q26l l) (Int.toNat i) []) 0 C.ne)) (q26h (List.getD (List.getD (EC.encL q26l l) (Int.toNat i) []) 1 C.ne)) (q273 (List.getD (List.getD (EC.encL q26l l) (Int.toNat i) []) 2 C.ne)) j b0 b1) fun r0 =>
 (brE (r0==true)
 (gdE ((decide (0≤(IntKind.wrap .i64 (i+1))))&&(decide ((IntKind.wrap .i64 (i+1))<((can:Nat):Int)))) <|
 (gdE (decide ((Int.toNat (IntKind.wrap .i64 (i+1)))<(List.length (EC.encL q26u b2)))) <|
 (brE ((Int.toNat (IntKind.wrap .i64 (i+1)))==b2_1)
 (gdE ((decide (0≤(IntKind.wrap .i64 (j+1))))&&(decide ((IntKind.wrap .i64 (j+1))<((b2_2:Nat):Int)))) <|
 (gdE ((decide ((Int.toNat (IntKind.wrap .i64 (j+1)))<(List.length (EC.encL q26n b3))))&&((List.length (List.getD (EC.encL q26n b3) (Int.toNat (IntKind.wrap .i64 (j+1))) []))==1)) <|
 (gdE (isP [K1.bool] 0 (List.getD (EC.encL q26n b3) (Int.toNat (IntKind.wrap .i64 (j+1))) [])) <|
 (gdE ((decide (0≤j))&&(decide (j<((b2_2:Nat):Int)))) <|
 (gdE ((decide ((Int.toNat j)<(List.length (EC.encL q26n b3))))&&((List.length (List.getD (EC.encL q26n b3) (Int.toNat j) []))==1)) <|
 (gdE (EC.isL q26l (EC.encL q26l l)) <|
 (gdE (EC.isL q26u (EC.encL q26u b2)) <|
 (gdE (EC.isL q26n (List.set (EC.encL q26n b3) (Int.toNat j) (splice (List.getD (EC.encL q26n b3) (Int.toNat j) []) 0 [(C.bool (q26h (List.getD (List.getD (EC.encL q26n b3) (Int.toNat (IntKind.wrap .i64 (j+1))) []) 0 C.ne)))]))) <|
 (qr5 (EC.decL q26l (EC.encL q26l l)) can i (IntKind.wrap .i64 (j - 1)) b0 b1 (EC.decL q26u (EC.encL q26u b2)) b2_1 b2_2 (EC.decL q26n (List.set (EC.encL q26n b3) (Int.toNat j) (splice (List.getD (EC.encL q26n b3) (Int.toNat j) []) 0 [(C.bool (q26h (List.getD (List.getD (EC.encL q26n b3) (Int.toNat (IntKind.wrap .i64 (j+1))) []) 0 C.ne)))]))))))))))))
 (gdE ((List.length (List.getD (EC.encL q26u b2) (Int.toNat (IntKind.wrap .i64 (i+1))) []))==1) <|
 (gdE (isP [K1.sl] 0 (List.getD (EC.encL q26u b2) (Int.toNat (IntKind.wrap .i64 (i+1))) [])) <|
 (gdE (decide (0≤(IntKind.wrap .i64 (j+1)))) <|
 (gdE ((decide ((Int.toNat (IntKind.wrap .i64 (j+1)))<(List.length (slOf (List.getD (List.getD (EC.encL q26u b2) (Int.toNat (IntKind.wrap .i64 (i+1))) []) 0 C.ne)))))&&(isE [K1.bool] 0 (List.getD (slOf (List.getD (List.getD (EC.encL q26u b2) (Int.toNat (IntKind.wrap .i64 (i+1))) []) 0 C.ne)) (Int.toNat (IntKind.wrap .i64 (j+1))) []))) <|
 (gdE ((decide (0≤j))&&(decide (j<((b2_2:Nat):Int)))) <|
 (gdE ((decide ((Int.toNat j)<(List.length (EC.encL q26n b3))))&&((List.length (List.getD (EC.encL q26n b3) (Int.toNat j) []))==1)) <|
 (gdE (EC.isL q26l (EC.encL q26l l)) <|
 (gdE (EC.isL q26u (EC.encL q26u b2)) <|
 (gdE (EC.isL q26n (List.set (EC.encL q26n b3) (Int.toNat j) (splice (List.getD (EC.encL q26n b3) (Int.toNat j) []) 0 [(C.bool (q26h (List.getD (List.getD (slOf (List.getD (List.getD (EC.encL q26u b2) (Int.toNat (IntKind.wrap .i64 (i+1))) []) 0 C.ne)) (Int.toNat (IntKind.wrap .i64 (j+1))) []) 0 C.ne)))]))) <|
 (qr5 (EC.decL q26l (EC.encL q26l l)) can i (IntKind.wrap .i64 (j - 1)) b0 b1 (EC.decL q26u (EC.encL q26u b2)) b2_1 b2_2 (EC.decL q26n (List.set (EC.encL q26n b3) (Int.toNat j) (splice (List.getD (EC.encL q26n b3) (Int.toNat j) []) 0 [(C.bool (q26h (List.getD (List.getD (slOf (List.getD (List.getD (EC.encL q26u b2) (Int.toNat (IntKind.wrap .i64 (i+1))) []) 0 C.ne)) (Int.toNat (IntKind.wrap .i64 (j+1))) []) 0 C.ne)))]))))))))))))))))
 (gdE ((decide (0≤j))&&(decide (j<((b2_2:Nat):Int)))) <|
 (gdE ((decide ((Int.toNat j)<(List.length (EC.encL q26n b3))))&&((List.length (List.getD (EC.encL q26n b3) (Int.toNat j) []))==1)) <|
 (gdE (EC.isL q26l (EC.encL q26l l)) <|
 (gdE (EC.isL q26u (EC.encL q26u b2)) <|
 (gdE (EC.isL q26n (List.set (EC.encL q26n b3) (Int.toNat j) (splice (List.getD (EC.encL q26n b3) (Int.toNat j) []) 0 [(C.bool false)]))) <|
 (qr5 (EC.decL q26l (EC.encL q26l l)) can i (IntKind.wrap .i64 (j - 1)) b0 b1 (EC.decL q26u (EC.encL q26u b2)) b2_1 b2_2 (EC.decL q26n (List.set (EC.encL q26n b3) (Int.toNat j) (splice (List.getD (EC.encL q26n b3) (Int.toNat j) []) 0 [(C.bool false)])))))))))))))
 (gdE ((List.length (List.getD (EC.encL q26u b2) (Int.toNat i) []))==1) <|
 (gdE (isP [K1.sl] 0 (List.getD (EC.encL q26u b2) (Int.toNat i) [])) <|
 (gdE (decide (0≤i)) <|
 (gdE ((decide ((Int.toNat i)<(List.length (EC.encL q26l l))))&&(isE [K1.bool,K1.bool,(K1.int Go.IntKind.u8)] 0 (List.getD (EC.encL q26l l) (Int.toNat i) []))) <|
 (Option.bind (fits_s (q26h (List.getD (List.getD (EC.encL q26l l) (Int.toNat i) []) 0 C.ne)) (q26h (List.getD (List.getD (EC.encL q26l l) (Int.toNat i) []) 1 C.ne)) (q273 (List.getD (List.getD (EC.encL q26l l) (Int.toNat i) []) 2 C.ne)) j b0 b1) fun r0 =>
 (brE (r0==true)
 (gdE ((decide (0≤(IntKind.wrap .i64 (i+1))))&&(decide ((IntKind.wrap .i64 (i+1))<((can:Nat):Int)))) <|
 (gdE (decide ((Int.toNat (IntKind.wrap .i64 (i+1)))<(List.length (EC.encL q26u b2)))) <|
 (brE ((Int.toNat (IntKind.wrap .i64 (i+1)))==b2_1)
 (gdE ((decide (0≤(IntKind.wrap .i64 (j+1))))&&(decide ((IntKind.wrap .i64 (j+1))<((b2_2:Nat):Int)))) <|
 (gdE ((decide ((Int.toNat (IntKind.wrap .i64 (j+1)))<(List.length (EC.encL q26n b3))))&&((List.length (List.getD (EC.encL q26n b3) (Int.toNat (IntKind.wrap .i64 (j+1))) []))==1)) <|
 (gdE (isP [K1.bool] 0 (List.getD (EC.encL q26n b3) (Int.toNat (IntKind.wrap .i64 (j+1))) [])) <|
 (gdE (decide (0≤j)) <|
 (gdE ((decide ((Int.toNat j)<(List.length (slOf (List.getD (List.getD (EC.encL q26u b2) (Int.toNat i) []) 0 C.ne)))))&&(isE [K1.bool] 0 (List.getD (slOf (List.getD (List.getD (EC.encL q26u b2) (Int.toNat i) []) 0 C.ne)) (Int.toNat j) []))) <|
 none)))))
 (gdE ((List.length (List.getD (EC.encL q26u b2) (Int.toNat (IntKind.wrap .i64 (i+1))) []))==1) <|
 (gdE (isP [K1.sl] 0 (List.getD (EC.encL q26u b2) (Int.toNat (IntKind.wrap .i64 (i+1))) [])) <|
 (gdE (decide (0≤(IntKind.wrap .i64 (j+1)))) <|
 (gdE ((decide ((Int.toNat (IntKind.wrap .i64 (j+1)))<(List.length (slOf (List.getD (List.getD (EC.encL q26u b2) (Int.toNat (IntKind.wrap .i64 (i+1))) []) 0 C.ne)))))&&(isE [K1.bool] 0 (List.getD (slOf (List.getD (List.getD (EC.encL q26u b2) (Int.toNat (IntKind.wrap .i64 (i+1))) []) 0 C.ne)) (Int.toNat (IntKind.wrap .i64 (j+1))) []))) <|
 (gdE (decide (0≤j)) <|
 (gdE ((decide ((Int.toNat j)<(List.length (slOf (List.getD (List.getD (EC.encL q26u b2) (Int.toNat i) []) 0 C.ne)))))&&(isE [K1.bool] 0 (List.getD (slOf (List.getD (List.getD (EC.encL q26u b2) (Int.toNat i) []) 0 C.ne)) (Int.toNat j) []))) <|
 none)))))))))
 (gdE (decide (0≤j)) <|
 (gdE ((decide ((Int.toNat j)<(List.length (slOf (List.getD (List.getD (EC.encL q26u b2) (Int.toNat i) []) 0 C.ne)))))&&(isE [K1.bool] 0 (List.getD (slOf (List.getD (List.getD (EC.encL q26u b2) (Int.toNat i) []) 0 C.ne)) (Int.toNat j) []))) <|
 none)))))))))))))))
 (gdE (EC.isL q26l (EC.encL q26l l)) <|
 (gdE (EC.isL q26u (EC.encL q26u b2)) <|
 (gdE (EC.isL q26n (EC.encL q26n b3)) <|
 (some (((EC.decL q26l (EC.encL q26l l)),((),(((),()),(can,(i,(j,false)))))),(b0,(b1,(((EC.decL q26u (EC.encL q26u b2)),(b2_1,b2_2)),(EC.decL q26n (EC.encL q26n b3)))))))))))
theorem qr7 {l} {can} {i} {j} {b0} {b1} {b2} {b2_1} {b2_2} {b3} {r} (h:qrb l can i j b0 b1 b2 b2_1 b2_2 b3=some r):qr5 l can i j b0 b1 b2 b2_1 b2_2 b3=some r :=
 qm5 (es:=qzv) (hs:=[]) [] (by kernel_rfl) trivial trivial (by kernel_rfl) h
def qr6:=q27d Tryz.prog lv X0 9 (q270 (cdF Tryz.f155) 9) qra qr8 (fun x=>qr5 x.1.1 x.1.2.2.2.1 x.1.2.2.2.2.1 x.1.2.2.2.2.2 x.2.1 x.2.2.1 x.2.2.2.1.1 x.2.2.2.1.2.1 x.2.2.2.1.2.2 x.2.2.2.2) (fun _ _ h=>qm4 h)
def qr3:=sLS [0,3,7,8,9] (q279 (vC (cSl q26l)) (q279 (vPtr 0 0) (q279 (vFn 165 (q279 (vPtr 0 0) (q27b (vPtr 1 0)))) (q279 (vRow 2) (q27b (vC (cInt .i64))))))) (q279 (q27g (bBox (q27b (vC cStr)))) (q279 (q27g (bBox (q27b (vC cStr)))) (q279 (q27g (bTab q26u (vRow 3))) (q27b (q27g (bRow q26n)))))) [false,false,false,false] [] (by decide) (fun _=>rfl)
def qr2:=sLS [0,3,7,8,9,26] (q279 (vC (cSl q26l)) (q279 (vPtr 0 0) (q279 (vFn 165 (q279 (vPtr 0 0) (q27b (vPtr 1 0)))) (q279 (vRow 2) (q279 (vC (cInt .i64)) (q27b (vC cBool))))))) (q279 (q27g (bBox (q27b (vC cStr)))) (q279 (q27g (bBox (q27b (vC cStr)))) (q279 (q27g (bTab q26u (vRow 3))) (q27b (q27g (bRow q26n)))))) [false,false,false,false] [] (by decide) (fun _=>rfl)
def qr1:=oAt 2 qr2
def qqy (l:(List S192)) (can:Nat) (i:Int) (b0:ByteArray) (b1:ByteArray) (b2:(List (List Bool))) (b2_1:Nat) (b2_2:Nat) (b3:(List Bool)):Option (((List S192) × Unit × (Unit × Unit) × Nat × Int × Bool) × (ByteArray × ByteArray × ((List (List Bool)) × Nat × Nat) × (List Bool))):=lS Tryz.prog lv X0 155 166 (q270 (cdF Tryz.f155) 5) qr3 qr1 ((l,(),((),()),can,i),(b0,b1,(b2,b2_1,b2_2),b3))
def qr4 (l:(List S192)) (can:Nat) (i:Int) (b0:ByteArray) (b1:ByteArray) (b2:(List (List Bool))) (b2_1:Nat) (b2_2:Nat) (b3:(List Bool)):Option (((List S192) × Unit × (Unit × Unit) × Nat × Int × Bool) × (ByteArray × ByteArray × ((List (List Bool)) × Nat × Nat) × (List Bool))) :=
 (brE (decide (i ≥ 0))
 (gdE ((((decide ((IntKind.wrap .i64 ((b0.size:Int)+1))=(IntKind.wrap .i64 ((b0.size:Int)+1))))&&(decide (0≤(IntKind.wrap .i64 ((b0.size:Int)+1)))))&&(decide (((IntKind.wrap .i64 ((b0.size:Int)+1))*((1:Nat):Int))≤140737488355328)))&&(decide ((IntKind.wrap .i64 ((b0.size:Int)+1))≤9223372036854775807))) <|
 (gdE ((decide (0≤i))&&(decide (i<((can:Nat):Int)))) <|
 (gdE (decide ((Int.toNat i)<(List.length (EC.encL q26u b2)))) <|
 (brE (decide (b2_1<(List.length (EC.encL q26u b2))))
 (gdE (EC.isL q26l (EC.encL q26l l)) <|
 (gdE (EC.isL q26u (List.set (EC.encL q26u b2) b2_1 [(C.sl (EC.encL q26n b3))])) <|
 (gdE (EC.isL q26n (List.replicate (Int.toNat (IntKind.wrap .i64 ((b0.size:Int)+1))) [(C.bool false)])) <|
 (Option.bind (qr5 (EC.decL q26l (EC.encL q26l l)) can i (b0.size:Int) b0 b1 (EC.decL q26u (List.set (EC.encL q26u b2) b2_1 [(C.sl (EC.encL q26n b3))])) (Int.toNat i) (Int.toNat (IntKind.wrap .i64 ((b0.size:Int)+1))) (EC.decL q26n (List.replicate (Int.toNat (IntKind.wrap .i64 ((b0.size:Int)+1))) [(C.bool false)]))) fun r0 =>
 (gdE (EC.isL q26l (EC.encL q26l r0.1.1)) <|
 (gdE (EC.isL q26u (EC.encL q26u r0.2.2.2.1.1)) <|
 (gdE (EC.isL q26n (EC.encL q26n r0.2.2.2.2)) <|
 (qqy (EC.decL q26l (EC.encL q26l r0.1.1)) r0.1.2.2.2.1 (IntKind.wrap .i64 (r0.1.2.2.2.2.1 - 1)) r0.2.1 r0.2.2.1 (EC.decL q26u (EC.encL q26u r0.2.2.2.1.1)) r0.2.2.2.1.2.1 r0.2.2.2.1.2.2 (EC.decL q26n (EC.encL q26n r0.2.2.2.2))))))))))
 (gdE (EC.isL q26l (EC.encL q26l l)) <|
 (gdE (EC.isL q26u (EC.encL q26u b2)) <|
 (gdE (EC.isL q26n (List.replicate (Int.toNat (IntKind.wrap .i64 ((b0.size:Int)+1))) [(C.bool false)])) <|
 (Option.bind (qr5 (EC.decL q26l (EC.encL q26l l)) can i (b0.size:Int) b0 b1 (EC.decL q26u (EC.encL q26u b2)) (Int.toNat i) (Int.toNat (IntKind.wrap .i64 ((b0.size:Int)+1))) (EC.decL q26n (List.replicate (Int.toNat (IntKind.wrap .i64 ((b0.size:Int)+1))) [(C.bool false)]))) fun r0 =>
 (gdE (EC.isL q26l (EC.encL q26l r0.1.1)) <|
 (gdE (EC.isL q26u (EC.encL q26u r0.2.2.2.1.1)) <|
 (gdE (EC.isL q26n (EC.encL q26n r0.2.2.2.2)) <|
 (qqy (EC.decL q26l (EC.encL q26l r0.1.1)) r0.1.2.2.2.1 (IntKind.wrap .i64 (r0.1.2.2.2.2.1 - 1)) r0.2.1 r0.2.2.1 (EC.decL q26u (EC.encL q26u r0.2.2.2.1.1)) r0.2.2.2.1.2.1 r0.2.2.2.1.2.2 (EC.decL q26n (EC.encL q26n r0.2.2.2.2))))))))))))))
 (gdE (EC.isL q26l (EC.encL q26l l)) <|
 (gdE (EC.isL q26u (EC.encL q26u b2)) <|
 (gdE (EC.isL q26n (EC.encL q26n b3)) <|
 (some (((EC.decL q26l (EC.encL q26l l)),((),(((),()),(can,(i,false))))),(b0,(b1,(((EC.decL q26u (EC.encL q26u b2)),(b2_1,b2_2)),(EC.decL q26n (EC.encL q26n b3)))))))))))
theorem qr0 {l} {can} {i} {b0} {b1} {b2} {b2_1} {b2_2} {b3} {r} (h:qr4 l can i b0 b1 b2 b2_1 b2_2 b3=some r):qqy l can i b0 b1 b2 b2_1 b2_2 b3=some r :=
 qm5 (es:=qzv) (hs:=[]) [qr6] (by kernel_rfl) ⟨⟨_,rfl,rfl⟩,trivial⟩ trivial (by kernel_rfl) h
def qqz:=q27d Tryz.prog lv X0 5 (q270 (cdF Tryz.f155) 5) qr3 qr1 (fun x=>qqy x.1.1 x.1.2.2.2.1 x.1.2.2.2.2 x.2.1 x.2.2.1 x.2.2.2.1.1 x.2.2.2.1.2.1 x.2.2.2.1.2.2 x.2.2.2.2) (fun _ _ h=>qm4 h)
def qqw:=sLS [3,8,11,12,13,14,15,123,124,125] (q279 (vPtr 0 0) (q279 (vRow 1) (q279 (vRow 2) (q279 (vC (cInt .i64)) (q279 (vC (cInt .i64)) (q279 (vPtr 3 0) (q279 (vC (cInt .i64)) (q279 (vC (cSl q26l)) (q279 (vC (cInt .i64)) (q27b (vC (cInt .i64)))))))))))) (q279 (q27g (bBox (q27b (vC cStr)))) (q279 (q27g (bTab q26u (vRow 4))) (q279 (q27g (bRow q26v)) (q279 (q27g (bBox (q279 (vC cBool) (q279 (vC cBool) (q27b (vC (cInt .u8))))))) (q27b (q27g (bRow q26n))))))) [false,false,false,false,false] [] (by decide) (fun _=>rfl)
def qqv:=sLS [3,8,11,12,13,14,15,123,124,125,143] (q279 (vPtr 0 0) (q279 (vRow 1) (q279 (vRow 2) (q279 (vC (cInt .i64)) (q279 (vC (cInt .i64)) (q279 (vPtr 3 0) (q279 (vC (cInt .i64)) (q279 (vC (cSl q26l)) (q279 (vC (cInt .i64)) (q279 (vC (cInt .i64)) (q27b (vC cBool)))))))))))) (q279 (q27g (bBox (q27b (vC cStr)))) (q279 (q27g (bTab q26u (vRow 4))) (q279 (q27g (bRow q26v)) (q279 (q27g (bBox (q279 (vC cBool) (q279 (vC cBool) (q27b (vC (cInt .u8))))))) (q27b (q27g (bRow q26n))))))) [false,false,false,false,false] [] (by decide) (fun _=>rfl)
def qqu:=oAt 9 qqv
def qqr (can:Nat) (out:Nat) (j:Int) (i:Int) (from_:Int) (t123:(List S192)) (t124:Int) (t125:Int) (b0:ByteArray) (b1:(List (List Bool))) (b1_1:Nat) (b1_2:Nat) (b2:(List ByteArray)) (b3:Bool) (b3_1:Bool) (b3_2:Int) (b4:(List Bool)):Option ((Unit × Nat × Nat × Int × Int × Unit × Int × (List S192) × Int × Int × Bool) × (ByteArray × ((List (List Bool)) × Nat × Nat) × (List ByteArray) × (Bool × Bool × Int) × (List Bool))):=lS Tryz.prog lv X0 155 166 (q270 (cdF Tryz.f155) 24) qqw qqu (((),can,out,j,i,(),from_,t123,t124,t125),(b0,(b1,b1_1,b1_2),b2,(b3,b3_1,b3_2),b4))
def qqx (can:Nat) (out:Nat) (j:Int) (i:Int) (from_:Int) (t123:(List S192)) (t124:Int) (t125:Int) (b0:ByteArray) (b1:(List (List Bool))) (b1_1:Nat) (b1_2:Nat) (b2:(List ByteArray)) (b3:Bool) (b3_1:Bool) (b3_2:Int) (b4:(List Bool)):Option ((Unit × Nat × Nat × Int × Int × Unit × Int × (List S192) × Int × Int × Bool) × (ByteArray × ((List (List Bool)) × Nat × Nat) × (List ByteArray) × (Bool × Bool × Int) × (List Bool))) :=
 (brE (b3_1==true)
 (gdE ((decide (0≤(IntKind.wrap .i64 (i+1))))&&(decide ((IntKind.wrap .i64 (i+1))<((can:Nat):Int)))) <|
 (gdE (decide ((Int.toNat (IntKind.wrap .i64 (i+1)))<(List.length (EC.encL q26u b1)))) <|
 (brE ((Int.toNat (IntKind.wrap .i64 (i+1)))==b1_1)
 (gdE ((decide (0≤j))&&(decide (j<((b1_2:Nat):Int)))) <|
 (gdE ((decide ((Int.toNat j)<(List.length (EC.encL q26n b4))))&&((List.length (List.getD (EC.encL q26n b4) (Int.toNat j) []))==1)) <|
 (gdE (isP [K1.bool] 0 (List.getD (EC.encL q26n b4) (Int.toNat j) [])) <|
 (brE (!(q26h (List.getD (List.getD (EC.encL q26n b4) (Int.toNat j) []) 0 C.ne)))
 (gdE (EC.isL q26l (EC.encL q26l t123)) <|
 (gdE (EC.isL q26u (EC.encL q26u b1)) <|
 (gdE (EC.isL q26v (EC.encL q26v b2)) <|
 (gdE (EC.isL q26n (EC.encL q26n b4)) <|
 (qqr can out (IntKind.wrap .i64 (j+1)) i from_ (EC.decL q26l (EC.encL q26l t123)) t124 t125 b0 (EC.decL q26u (EC.encL q26u b1)) b1_1 b1_2 (EC.decL q26v (EC.encL q26v b2)) b3 b3_1 b3_2 (EC.decL q26n (EC.encL q26n b4)))))))
 (gdE (EC.isL q26l (EC.encL q26l t123)) <|
 (gdE (EC.isL q26u (EC.encL q26u b1)) <|
 (gdE (EC.isL q26v (EC.encL q26v b2)) <|
 (gdE (EC.isL q26n (EC.encL q26n b4)) <|
 (some (((),(can,(out,(j,(i,((),(from_,((EC.decL q26l (EC.encL q26l t123)),(t124,(t125,false)))))))))),(b0,(((EC.decL q26u (EC.encL q26u b1)),(b1_1,b1_2)),((EC.decL q26v (EC.encL q26v b2)),((b3,(b3_1,b3_2)),(EC.decL q26n (EC.encL q26n b4))))))))))))))))
 (gdE ((List.length (List.getD (EC.encL q26u b1) (Int.toNat (IntKind.wrap .i64 (i+1))) []))==1) <|
 (gdE (isP [K1.sl] 0 (List.getD (EC.encL q26u b1) (Int.toNat (IntKind.wrap .i64 (i+1))) [])) <|
 (gdE (decide (0≤j)) <|
 (gdE ((decide ((Int.toNat j)<(List.length (slOf (List.getD (List.getD (EC.encL q26u b1) (Int.toNat (IntKind.wrap .i64 (i+1))) []) 0 C.ne)))))&&(isE [K1.bool] 0 (List.getD (slOf (List.getD (List.getD (EC.encL q26u b1) (Int.toNat (IntKind.wrap .i64 (i+1))) []) 0 C.ne)) (Int.toNat j) []))) <|
 (brE (!(q26h (List.getD (List.getD (slOf (List.getD (List.getD (EC.encL q26u b1) (Int.toNat (IntKind.wrap .i64 (i+1))) []) 0 C.ne)) (Int.toNat j) []) 0 C.ne)))
 (gdE (EC.isL q26l (EC.encL q26l t123)) <|
 (gdE (EC.isL q26u (EC.encL q26u b1)) <|
 (gdE (EC.isL q26v (EC.encL q26v b2)) <|
 (gdE (EC.isL q26n (EC.encL q26n b4)) <|
 (qqr can out (IntKind.wrap .i64 (j+1)) i from_ (EC.decL q26l (EC.encL q26l t123)) t124 t125 b0 (EC.decL q26u (EC.encL q26u b1)) b1_1 b1_2 (EC.decL q26v (EC.encL q26v b2)) b3 b3_1 b3_2 (EC.decL q26n (EC.encL q26n b4)))))))
 (gdE (EC.isL q26l (EC.encL q26l t123)) <|
 (gdE (EC.isL q26u (EC.encL q26u b1)) <|
 (gdE (EC.isL q26v (EC.encL q26v b2)) <|
 (gdE (EC.isL q26n (EC.encL q26n b4)) <|
 (some (((),(can,(out,(j,(i,((),(from_,((EC.decL q26l (EC.encL q26l t123)),(t124,(t125,false)))))))))),(b0,(((EC.decL q26u (EC.encL q26u b1)),(b1_1,b1_2)),((EC.decL q26v (EC.encL q26v b2)),((b3,(b3_1,b3_2)),(EC.decL q26n (EC.encL q26n b4))))))))))))))))))))
 (gdE (EC.isL q26l (EC.encL q26l t123)) <|
 (gdE (EC.isL q26u (EC.encL q26u b1)) <|
 (gdE (EC.isL q26v (EC.encL q26v b2)) <|
 (gdE (EC.isL q26n (EC.encL q26n b4)) <|
 (some (((),(can,(out,(j,(i,((),(from_,((EC.decL q26l (EC.encL q26l t123)),(t124,(t125,false)))))))))),(b0,(((EC.decL q26u (EC.encL q26u b1)),(b1_1,b1_2)),((EC.decL q26v (EC.encL q26v b2)),((b3,(b3_1,b3_2)),(EC.decL q26n (EC.encL q26n b4)))))))))))))
theorem qqt {can} {out} {j} {i} {from_} {t123} {t124} {t125} {b0} {b1} {b1_1} {b1_2} {b2} {b3} {b3_1} {b3_2} {b4} {r} (h:qqx can out j i from_ t123 t124 t125 b0 b1 b1_1 b1_2 b2 b3 b3_1 b3_2 b4=some r):qqr can out j i from_ t123 t124 t125 b0 b1 b1_1 b1_2 b2 b3 b3_1 b3_2 b4=some r :=
 qm5 (es:=qzv) (hs:=[]) [] (by kernel_rfl) trivial trivial (by kernel_rfl) h
def qqs:=q27d Tryz.prog lv X0 24 (q270 (cdF Tryz.f155) 24) qqw qqu (fun x=>qqr x.1.2.1 x.1.2.2.1 x.1.2.2.2.1 x.1.2.2.2.2.1 x.1.2.2.2.2.2.2.1 x.1.2.2.2.2.2.2.2.1 x.1.2.2.2.2.2.2.2.2.1 x.1.2.2.2.2.2.2.2.2.2 x.2.1 x.2.2.1.1 x.2.2.1.2.1 x.2.2.1.2.2 x.2.2.2.1 x.2.2.2.2.1.1 x.2.2.2.2.1.2.1 x.2.2.2.2.1.2.2 x.2.2.2.2.2) (fun _ _ h=>qm4 h)
def qqp:=sLS [3,8,11,12,123,124,125] (q279 (vPtr 0 0) (q279 (vRow 1) (q279 (vRow 2) (q279 (vC (cInt .i64)) (q279 (vC (cSl q26l)) (q279 (vC (cInt .i64)) (q27b (vC (cInt .i64))))))))) (q279 (q27g (bBox (q27b (vC cStr)))) (q279 (q27g (bTab q26u (vRow 3))) (q279 (q27g (bRow q26v)) (q27b (q27g (bRow q26n)))))) [false,false,false,false] [] (by decide) (fun _=>rfl)
def qqo:=sLS [3,8,11,12,123,124,125,126] (q279 (vPtr 0 0) (q279 (vRow 1) (q279 (vRow 2) (q279 (vC (cInt .i64)) (q279 (vC (cSl q26l)) (q279 (vC (cInt .i64)) (q279 (vC (cInt .i64)) (q27b (vC cBool))))))))) (q279 (q27g (bBox (q27b (vC cStr)))) (q279 (q27g (bTab q26u (vRow 3))) (q279 (q27g (bRow q26v)) (q27b (q27g (bRow q26n)))))) [false,false,false,false] [] (by decide) (fun _=>rfl)
def qqn:=oAt 7 qqo
def qqk (can:Nat) (out:Nat) (j:Int) (t123:(List S192)) (t124:Int) (t125:Int) (b0:ByteArray) (b1:(List (List Bool))) (b1_1:Nat) (b1_2:Nat) (b2:(List ByteArray)) (b3:(List Bool)):Option ((Unit × Nat × Nat × Int × (List S192) × Int × Int × Bool) × (ByteArray × ((List (List Bool)) × Nat × Nat) × (List ByteArray) × (List Bool))):=lS Tryz.prog lv X0 155 166 (q270 (cdF Tryz.f155) 21) qqp qqn (((),can,out,j,t123,t124,t125),(b0,(b1,b1_1,b1_2),b2,b3))
def qqq (can:Nat) (out:Nat) (j:Int) (t123:(List S192)) (t124:Int) (t125:Int) (b0:ByteArray) (b1:(List (List Bool))) (b1_1:Nat) (b1_2:Nat) (b2:(List ByteArray)) (b3:(List Bool)):Option ((Unit × Nat × Nat × Int × (List S192) × Int × Int × Bool) × (ByteArray × ((List (List Bool)) × Nat × Nat) × (List ByteArray) × (List Bool))) :=
 (brE (decide (t125<t124))
 (gdE (decide (0≤t125)) <|
 (gdE ((decide ((Int.toNat t125)<(List.length (EC.encL q26l t123))))&&(isE [K1.bool,K1.bool,(K1.int Go.IntKind.u8)] 0 (List.getD (EC.encL q26l t123) (Int.toNat t125) []))) <|
 (gdE (EC.isL q26l (EC.encL q26l t123)) <|
 (gdE (EC.isL q26u (EC.encL q26u b1)) <|
 (gdE (EC.isL q26v (EC.encL q26v b2)) <|
 (gdE (EC.isL q26n (EC.encL q26n b3)) <|
 (Option.bind (qqr can out j t125 j (EC.decL q26l (EC.encL q26l t123)) t124 t125 b0 (EC.decL q26u (EC.encL q26u b1)) b1_1 b1_2 (EC.decL q26v (EC.encL q26v b2)) (q26h (List.getD (List.getD (EC.encL q26l t123) (Int.toNat t125) []) 0 C.ne)) (q26h (List.getD (List.getD (EC.encL q26l t123) (Int.toNat t125) []) 1 C.ne)) (q273 (List.getD (List.getD (EC.encL q26l t123) (Int.toNat t125) []) 2 C.ne)) (EC.decL q26n (EC.encL q26n b3))) fun r0 =>
 (brE (!r0.2.2.2.2.1.2.1)
 (brE (r0.2.2.2.2.1.2.1==false)
 (brE r0.2.2.2.2.1.1
 (gdE ((decide (0≤(IntKind.wrap .i64 (r0.1.2.2.2.1+1))))&&(decide ((IntKind.wrap .i64 (r0.1.2.2.2.1+1))≤(((ByteArray.size r0.2.1):Nat):Int)))) <|
 (gdE ((decide (0≤r0.1.2.2.2.2.2.2.1))&&(decide (r0.1.2.2.2.2.2.2.1≤(((Int.toNat (IntKind.wrap .i64 (r0.1.2.2.2.1+1))):Nat):Int)))) <|
 (gdE ((((List.all [[(C.str (ByteArray.extract r0.2.1 (Int.toNat r0.1.2.2.2.2.2.2.1) (Int.toNat (IntKind.wrap .i64 (r0.1.2.2.2.1+1)))))]] (fun (el:(List C))=>((List.length el)==1)))&&(List.all (EC.encL q26v r0.2.2.2.1) (fun (el:(List C))=>((List.length el)==1))))&&(decide (((((r0.1.2.2.1+(List.length [[(C.str (ByteArray.extract r0.2.1 (Int.toNat r0.1.2.2.2.2.2.2.1) (Int.toNat (IntKind.wrap .i64 (r0.1.2.2.2.1+1)))))]]))+((r0.1.2.2.1+(List.length [[(C.str (ByteArray.extract r0.2.1 (Int.toNat r0.1.2.2.2.2.2.2.1) (Int.toNat (IntKind.wrap .i64 (r0.1.2.2.2.1+1)))))]])) / 4))+192)*16)≤281474976710656)))&&(decide ((r0.1.2.2.1+(List.length [[(C.str (ByteArray.extract r0.2.1 (Int.toNat r0.1.2.2.2.2.2.2.1) (Int.toNat (IntKind.wrap .i64 (r0.1.2.2.2.1+1)))))]]))≤9223372036854775807))) <|
 (gdE (EC.isL q26l (EC.encL q26l r0.1.2.2.2.2.2.2.2.1)) <|
 (gdE (EC.isL q26u (EC.encL q26u r0.2.2.1.1)) <|
 (gdE (EC.isL q26v ((EC.encL q26v r0.2.2.2.1)++[[(C.str (ByteArray.extract r0.2.1 (Int.toNat r0.1.2.2.2.2.2.2.1) (Int.toNat (IntKind.wrap .i64 (r0.1.2.2.2.1+1)))))]])) <|
 (gdE (EC.isL q26n (EC.encL q26n r0.2.2.2.2.2)) <|
 (qqk r0.1.2.1 (r0.1.2.2.1+(List.length [[(C.str (ByteArray.extract r0.2.1 (Int.toNat r0.1.2.2.2.2.2.2.1) (Int.toNat (IntKind.wrap .i64 (r0.1.2.2.2.1+1)))))]])) (IntKind.wrap .i64 (r0.1.2.2.2.1+1)) (EC.decL q26l (EC.encL q26l r0.1.2.2.2.2.2.2.2.1)) r0.1.2.2.2.2.2.2.2.2.1 (IntKind.wrap .i64 (r0.1.2.2.2.2.2.2.2.2.2.1+1)) r0.2.1 (EC.decL q26u (EC.encL q26u r0.2.2.1.1)) r0.2.2.1.2.1 r0.2.2.1.2.2 (EC.decL q26v ((EC.encL q26v r0.2.2.2.1)++[[(C.str (ByteArray.extract r0.2.1 (Int.toNat r0.1.2.2.2.2.2.2.1) (Int.toNat (IntKind.wrap .i64 (r0.1.2.2.2.1+1)))))]])) (EC.decL q26n (EC.encL q26n r0.2.2.2.2.2))))))))))
 (gdE (EC.isL q26l (EC.encL q26l r0.1.2.2.2.2.2.2.2.1)) <|
 (gdE (EC.isL q26u (EC.encL q26u r0.2.2.1.1)) <|
 (gdE (EC.isL q26v (EC.encL q26v r0.2.2.2.1)) <|
 (gdE (EC.isL q26n (EC.encL q26n r0.2.2.2.2.2)) <|
 (qqk r0.1.2.1 r0.1.2.2.1 (IntKind.wrap .i64 (r0.1.2.2.2.1+1)) (EC.decL q26l (EC.encL q26l r0.1.2.2.2.2.2.2.2.1)) r0.1.2.2.2.2.2.2.2.2.1 (IntKind.wrap .i64 (r0.1.2.2.2.2.2.2.2.2.2.1+1)) r0.2.1 (EC.decL q26u (EC.encL q26u r0.2.2.1.1)) r0.2.2.1.2.1 r0.2.2.1.2.2 (EC.decL q26v (EC.encL q26v r0.2.2.2.1)) (EC.decL q26n (EC.encL q26n r0.2.2.2.2.2))))))))
 (gdE ((decide (0≤(IntKind.wrap .i64 (r0.1.2.2.2.1+1))))&&(decide ((IntKind.wrap .i64 (r0.1.2.2.2.1+1))≤(((ByteArray.size r0.2.1):Nat):Int)))) <|
 (gdE ((decide (0≤r0.1.2.2.2.2.2.2.1))&&(decide (r0.1.2.2.2.2.2.2.1≤(((Int.toNat (IntKind.wrap .i64 (r0.1.2.2.2.1+1))):Nat):Int)))) <|
 (gdE ((((List.all [[(C.str (ByteArray.extract r0.2.1 (Int.toNat r0.1.2.2.2.2.2.2.1) (Int.toNat (IntKind.wrap .i64 (r0.1.2.2.2.1+1)))))]] (fun (el:(List C))=>((List.length el)==1)))&&(List.all (EC.encL q26v r0.2.2.2.1) (fun (el:(List C))=>((List.length el)==1))))&&(decide (((((r0.1.2.2.1+(List.length [[(C.str (ByteArray.extract r0.2.1 (Int.toNat r0.1.2.2.2.2.2.2.1) (Int.toNat (IntKind.wrap .i64 (r0.1.2.2.2.1+1)))))]]))+((r0.1.2.2.1+(List.length [[(C.str (ByteArray.extract r0.2.1 (Int.toNat r0.1.2.2.2.2.2.2.1) (Int.toNat (IntKind.wrap .i64 (r0.1.2.2.2.1+1)))))]])) / 4))+192)*16)≤281474976710656)))&&(decide ((r0.1.2.2.1+(List.length [[(C.str (ByteArray.extract r0.2.1 (Int.toNat r0.1.2.2.2.2.2.2.1) (Int.toNat (IntKind.wrap .i64 (r0.1.2.2.2.1+1)))))]]))≤9223372036854775807))) <|
 (gdE (EC.isL q26l (EC.encL q26l r0.1.2.2.2.2.2.2.2.1)) <|
 (gdE (EC.isL q26u (EC.encL q26u r0.2.2.1.1)) <|
 (gdE (EC.isL q26v ((EC.encL q26v r0.2.2.2.1)++[[(C.str (ByteArray.extract r0.2.1 (Int.toNat r0.1.2.2.2.2.2.2.1) (Int.toNat (IntKind.wrap .i64 (r0.1.2.2.2.1+1)))))]])) <|
 (gdE (EC.isL q26n (EC.encL q26n r0.2.2.2.2.2)) <|
 (qqk r0.1.2.1 (r0.1.2.2.1+(List.length [[(C.str (ByteArray.extract r0.2.1 (Int.toNat r0.1.2.2.2.2.2.2.1) (Int.toNat (IntKind.wrap .i64 (r0.1.2.2.2.1+1)))))]])) (IntKind.wrap .i64 (r0.1.2.2.2.1+1)) (EC.decL q26l (EC.encL q26l r0.1.2.2.2.2.2.2.2.1)) r0.1.2.2.2.2.2.2.2.2.1 (IntKind.wrap .i64 (r0.1.2.2.2.2.2.2.2.2.2.1+1)) r0.2.1 (EC.decL q26u (EC.encL q26u r0.2.2.1.1)) r0.2.2.1.2.1 r0.2.2.1.2.2 (EC.decL q26v ((EC.encL q26v r0.2.2.2.1)++[[(C.str (ByteArray.extract r0.2.1 (Int.toNat r0.1.2.2.2.2.2.2.1) (Int.toNat (IntKind.wrap .i64 (r0.1.2.2.2.1+1)))))]])) (EC.decL q26n (EC.encL q26n r0.2.2.2.2.2)))))))))))
 (brE (r0.2.2.2.2.1.2.1==false)
 (brE r0.2.2.2.2.1.1
 (gdE ((decide (0≤r0.1.2.2.2.1))&&(decide (r0.1.2.2.2.1≤(((ByteArray.size r0.2.1):Nat):Int)))) <|
 (gdE ((decide (0≤r0.1.2.2.2.2.2.2.1))&&(decide (r0.1.2.2.2.2.2.2.1≤(((Int.toNat r0.1.2.2.2.1):Nat):Int)))) <|
 (gdE ((((List.all [[(C.str (ByteArray.extract r0.2.1 (Int.toNat r0.1.2.2.2.2.2.2.1) (Int.toNat r0.1.2.2.2.1)))]] (fun (el:(List C))=>((List.length el)==1)))&&(List.all (EC.encL q26v r0.2.2.2.1) (fun (el:(List C))=>((List.length el)==1))))&&(decide (((((r0.1.2.2.1+(List.length [[(C.str (ByteArray.extract r0.2.1 (Int.toNat r0.1.2.2.2.2.2.2.1) (Int.toNat r0.1.2.2.2.1)))]]))+((r0.1.2.2.1+(List.length [[(C.str (ByteArray.extract r0.2.1 (Int.toNat r0.1.2.2.2.2.2.2.1) (Int.toNat r0.1.2.2.2.1)))]])) / 4))+192)*16)≤281474976710656)))&&(decide ((r0.1.2.2.1+(List.length [[(C.str (ByteArray.extract r0.2.1 (Int.toNat r0.1.2.2.2.2.2.2.1) (Int.toNat r0.1.2.2.2.1)))]]))≤9223372036854775807))) <|
 (gdE (EC.isL q26l (EC.encL q26l r0.1.2.2.2.2.2.2.2.1)) <|
 (gdE (EC.isL q26u (EC.encL q26u r0.2.2.1.1)) <|
 (gdE (EC.isL q26v ((EC.encL q26v r0.2.2.2.1)++[[(C.str (ByteArray.extract r0.2.1 (Int.toNat r0.1.2.2.2.2.2.2.1) (Int.toNat r0.1.2.2.2.1)))]])) <|
 (gdE (EC.isL q26n (EC.encL q26n r0.2.2.2.2.2)) <|
 (qqk r0.1.2.1 (r0.1.2.2.1+(List.length [[(C.str (ByteArray.extract r0.2.1 (Int.toNat r0.1.2.2.2.2.2.2.1) (Int.toNat r0.1.2.2.2.1)))]])) r0.1.2.2.2.1 (EC.decL q26l (EC.encL q26l r0.1.2.2.2.2.2.2.2.1)) r0.1.2.2.2.2.2.2.2.2.1 (IntKind.wrap .i64 (r0.1.2.2.2.2.2.2.2.2.2.1+1)) r0.2.1 (EC.decL q26u (EC.encL q26u r0.2.2.1.1)) r0.2.2.1.2.1 r0.2.2.1.2.2 (EC.decL q26v ((EC.encL q26v r0.2.2.2.1)++[[(C.str (ByteArray.extract r0.2.1 (Int.toNat r0.1.2.2.2.2.2.2.1) (Int.toNat r0.1.2.2.2.1)))]])) (EC.decL q26n (EC.encL q26n r0.2.2.2.2.2))))))))))
 (gdE (EC.isL q26l (EC.encL q26l r0.1.2.2.2.2.2.2.2.1)) <|
 (gdE (EC.isL q26u (EC.encL q26u r0.2.2.1.1)) <|
 (gdE (EC.isL q26v (EC.encL q26v r0.2.2.2.1)) <|
 (gdE (EC.isL q26n (EC.encL q26n r0.2.2.2.2.2)) <|
 (qqk r0.1.2.1 r0.1.2.2.1 r0.1.2.2.2.1 (EC.decL q26l (EC.encL q26l r0.1.2.2.2.2.2.2.2.1)) r0.1.2.2.2.2.2.2.2.2.1 (IntKind.wrap .i64 (r0.1.2.2.2.2.2.2.2.2.2.1+1)) r0.2.1 (EC.decL q26u (EC.encL q26u r0.2.2.1.1)) r0.2.2.1.2.1 r0.2.2.1.2.2 (EC.decL q26v (EC.encL q26v r0.2.2.2.1)) (EC.decL q26n (EC.encL q26n r0.2.2.2.2.2))))))))
 (gdE ((decide (0≤r0.1.2.2.2.1))&&(decide (r0.1.2.2.2.1≤(((ByteArray.size r0.2.1):Nat):Int)))) <|
 (gdE ((decide (0≤r0.1.2.2.2.2.2.2.1))&&(decide (r0.1.2.2.2.2.2.2.1≤(((Int.toNat r0.1.2.2.2.1):Nat):Int)))) <|
 (gdE ((((List.all [[(C.str (ByteArray.extract r0.2.1 (Int.toNat r0.1.2.2.2.2.2.2.1) (Int.toNat r0.1.2.2.2.1)))]] (fun (el:(List C))=>((List.length el)==1)))&&(List.all (EC.encL q26v r0.2.2.2.1) (fun (el:(List C))=>((List.length el)==1))))&&(decide (((((r0.1.2.2.1+(List.length [[(C.str (ByteArray.extract r0.2.1 (Int.toNat r0.1.2.2.2.2.2.2.1) (Int.toNat r0.1.2.2.2.1)))]]))+((r0.1.2.2.1+(List.length [[(C.str (ByteArray.extract r0.2.1 (Int.toNat r0.1.2.2.2.2.2.2.1) (Int.toNat r0.1.2.2.2.1)))]])) / 4))+192)*16)≤281474976710656)))&&(decide ((r0.1.2.2.1+(List.length [[(C.str (ByteArray.extract r0.2.1 (Int.toNat r0.1.2.2.2.2.2.2.1) (Int.toNat r0.1.2.2.2.1)))]]))≤9223372036854775807))) <|
 (gdE (EC.isL q26l (EC.encL q26l r0.1.2.2.2.2.2.2.2.1)) <|
 (gdE (EC.isL q26u (EC.encL q26u r0.2.2.1.1)) <|
 (gdE (EC.isL q26v ((EC.encL q26v r0.2.2.2.1)++[[(C.str (ByteArray.extract r0.2.1 (Int.toNat r0.1.2.2.2.2.2.2.1) (Int.toNat r0.1.2.2.2.1)))]])) <|
 (gdE (EC.isL q26n (EC.encL q26n r0.2.2.2.2.2)) <|
 (qqk r0.1.2.1 (r0.1.2.2.1+(List.length [[(C.str (ByteArray.extract r0.2.1 (Int.toNat r0.1.2.2.2.2.2.2.1) (Int.toNat r0.1.2.2.2.1)))]])) r0.1.2.2.2.1 (EC.decL q26l (EC.encL q26l r0.1.2.2.2.2.2.2.2.1)) r0.1.2.2.2.2.2.2.2.2.1 (IntKind.wrap .i64 (r0.1.2.2.2.2.2.2.2.2.2.1+1)) r0.2.1 (EC.decL q26u (EC.encL q26u r0.2.2.1.1)) r0.2.2.1.2.1 r0.2.2.1.2.2 (EC.decL q26v ((EC.encL q26v r0.2.2.2.1)++[[(C.str (ByteArray.extract r0.2.1 (Int.toNat r0.1.2.2.2.2.2.2.1) (Int.toNat r0.1.2.2.2.1)))]])) (EC.decL q26n (EC.encL q26n r0.2.2.2.2.2)))))))))))))))))))
 (gdE (EC.isL q26l (EC.encL q26l t123)) <|
 (gdE (EC.isL q26u (EC.encL q26u b1)) <|
 (gdE (EC.isL q26v (EC.encL q26v b2)) <|
 (gdE (EC.isL q26n (EC.encL q26n b3)) <|
 (some (((),(can,(out,(j,((EC.decL q26l (EC.encL q26l t123)),(t124,(t125,false))))))),(b0,(((EC.decL q26u (EC.encL q26u b1)),(b1_1,b1_2)),((EC.decL q26v (EC.encL q26v b2)),(EC.decL q26n (EC.encL q26n b3))))))))))))
theorem qqm {can} {out} {j} {t123} {t124} {t125} {b0} {b1} {b1_1} {b1_2} {b2} {b3} {r} (h:qqq can out j t123 t124 t125 b0 b1 b1_1 b1_2 b2 b3=some r):qqk can out j t123 t124 t125 b0 b1 b1_1 b1_2 b2 b3=some r :=
 qm5 (es:=qzv) (hs:=[]) [qqs] (by kernel_rfl) ⟨⟨_,rfl,rfl⟩,trivial⟩ trivial (by kernel_rfl) h
def qql:=q27d Tryz.prog lv X0 21 (q270 (cdF Tryz.f155) 21) qqp qqn (fun x=>qqk x.1.2.1 x.1.2.2.1 x.1.2.2.2.1 x.1.2.2.2.2.1 x.1.2.2.2.2.2.1 x.1.2.2.2.2.2.2 x.2.1 x.2.2.1.1 x.2.2.1.2.1 x.2.2.1.2.2 x.2.2.2.1 x.2.2.2.2) (fun _ _ h=>qm4 h)
def qqh:Cod (V × List B) ((Bool × Nat) × (List ByteArray)):=(cPair (vTup (q279 (vC cBool) (q27b (vRow 0)))) (q27b (bRow q26v)))
def qrc (l:(List S192)) (text:ByteArray):Option ((Bool × Nat) × (List ByteArray)):=fS Tryz.prog lv X0 155 qqg qqh (l,text)
def qrd (l:(List S192)) (text:ByteArray):Option ((Bool × Nat) × (List ByteArray)) :=
 (Option.bind (q5w text) fun r0 =>
 (gdE ((((decide ((IntKind.wrap .i64 ((List.length (EC.encL q26l l):Int)+1))=(IntKind.wrap .i64 ((List.length (EC.encL q26l l):Int)+1))))&&(decide (0≤(IntKind.wrap .i64 ((List.length (EC.encL q26l l):Int)+1)))))&&(decide (((IntKind.wrap .i64 ((List.length (EC.encL q26l l):Int)+1))*((24:Nat):Int))≤140737488355328)))&&(decide ((IntKind.wrap .i64 ((List.length (EC.encL q26l l):Int)+1))≤9223372036854775807))) <|
 (gdE (EC.isL q26l (EC.encL q26l l)) <|
 (gdE (EC.isL q26u (List.replicate (Int.toNat (IntKind.wrap .i64 ((List.length (EC.encL q26l l):Int)+1))) [(C.sl [])])) <|
 (Option.bind (qqy (EC.decL q26l (EC.encL q26l l)) (Int.toNat (IntKind.wrap .i64 ((List.length (EC.encL q26l l):Int)+1))) (List.length (EC.encL q26l l):Int) text r0 (EC.decL q26u (List.replicate (Int.toNat (IntKind.wrap .i64 ((List.length (EC.encL q26l l):Int)+1))) [(C.sl [])])) (Int.toNat (IntKind.wrap .i64 ((List.length (EC.encL q26l l):Int)+1))) 0 (EC.decL q26n [])) fun r1 =>
 (gdE ((decide ((0:Int)≤0))&&(decide (0<((r1.1.2.2.2.1:Nat):Int)))) <|
 (gdE (decide ((Int.toNat 0)<(List.length (EC.encL q26u r1.2.2.2.1.1)))) <|
 (brE ((Int.toNat 0)==r1.2.2.2.1.2.1)
 (gdE ((decide ((0:Int)≤0))&&(decide (0<((r1.2.2.2.1.2.2:Nat):Int)))) <|
 (gdE ((decide ((Int.toNat 0)<(List.length (EC.encL q26n r1.2.2.2.2))))&&((List.length (List.getD (EC.encL q26n r1.2.2.2.2) (Int.toNat 0) []))==1)) <|
 (gdE (isP [K1.bool] 0 (List.getD (EC.encL q26n r1.2.2.2.2) (Int.toNat 0) [])) <|
 (brE (!(q26h (List.getD (List.getD (EC.encL q26n r1.2.2.2.2) (Int.toNat 0) []) 0 C.ne)))
 (some ((false,0),(EC.decL q26v [])))
 (gdE (EC.isL q26l (EC.encL q26l r1.1.1)) <|
 (gdE (EC.isL q26u (EC.encL q26u r1.2.2.2.1.1)) <|
 (gdE (EC.isL q26n (EC.encL q26n r1.2.2.2.2)) <|
 (Option.bind (qqk r1.1.2.2.2.1 0 0 (EC.decL q26l (EC.encL q26l r1.1.1)) (((List.length (EC.encL q26l r1.1.1)):Nat):Int) 0 r1.2.1 (EC.decL q26u (EC.encL q26u r1.2.2.2.1.1)) r1.2.2.2.1.2.1 r1.2.2.2.1.2.2 (EC.decL q26v []) (EC.decL q26n (EC.encL q26n r1.2.2.2.2))) fun r2 =>
 (gdE (EC.isL q26v (EC.encL q26v r2.2.2.2.1)) <|
 (some ((true,r2.1.2.2.1),(EC.decL q26v (EC.encL q26v r2.2.2.2.1)))))))))))))
 (gdE ((List.length (List.getD (EC.encL q26u r1.2.2.2.1.1) (Int.toNat 0) []))==1) <|
 (gdE (isP [K1.sl] 0 (List.getD (EC.encL q26u r1.2.2.2.1.1) (Int.toNat 0) [])) <|
 (gdE ((decide ((Int.toNat 0)<(List.length (slOf (List.getD (List.getD (EC.encL q26u r1.2.2.2.1.1) (Int.toNat 0) []) 0 C.ne)))))&&(isE [K1.bool] 0 (List.getD (slOf (List.getD (List.getD (EC.encL q26u r1.2.2.2.1.1) (Int.toNat 0) []) 0 C.ne)) (Int.toNat 0) []))) <|
 (brE (!(q26h (List.getD (List.getD (slOf (List.getD (List.getD (EC.encL q26u r1.2.2.2.1.1) (Int.toNat 0) []) 0 C.ne)) (Int.toNat 0) []) 0 C.ne)))
 (some ((false,0),(EC.decL q26v [])))
 (gdE (EC.isL q26l (EC.encL q26l r1.1.1)) <|
 (gdE (EC.isL q26u (EC.encL q26u r1.2.2.2.1.1)) <|
 (gdE (EC.isL q26n (EC.encL q26n r1.2.2.2.2)) <|
 (Option.bind (qqk r1.1.2.2.2.1 0 0 (EC.decL q26l (EC.encL q26l r1.1.1)) (((List.length (EC.encL q26l r1.1.1)):Nat):Int) 0 r1.2.1 (EC.decL q26u (EC.encL q26u r1.2.2.2.1.1)) r1.2.2.2.1.2.1 r1.2.2.2.1.2.2 (EC.decL q26v []) (EC.decL q26n (EC.encL q26n r1.2.2.2.2))) fun r2 =>
 (gdE (EC.isL q26v (EC.encL q26v r2.2.2.2.1)) <|
 (some ((true,r2.1.2.2.1),(EC.decL q26v (EC.encL q26v r2.2.2.2.1)))))))))))))))))))))
theorem qqj {l} {text} {r} (h:qrd l text=some r):qrc l text=some r :=
 qf2 (es:=qzv) (hs:=[]) [qqz,qql] Tryz.func155 rfl (by kernel_rfl) rfl (by kernel_rfl) (by kernel_rfl) ⟨⟨_,rfl,rfl⟩,⟨_,rfl,rfl⟩,trivial⟩ trivial (by kernel_rfl) h
def qqi:=entS Tryz.prog lv X0 155 [] qqg qqh (fun x=>qrc x.1 x.2) (fun _ _ h=>qf1 h)
def q10e:=qqi::qzv
def qpw:=(q279 (vC (cInt .i64)) (q279 (vC cStr) (q27b (vC cStr))))
def qpx:Cod (V × List B) ((Bool × Nat × (Int × Int)) × (List ByteArray)):=(cPair (vTup (q279 (vC cBool) (q279 (vRow 0) (q27b (vAgg (q279 (vC (cInt .i64)) (q27b (vC (cInt .i64))))))))) (q27b (bRow q26v)))
def qq0 (kind:Int) (pattern:ByteArray) (text:ByteArray):Option ((Bool × Nat × (Int × Int)) × (List ByteArray)):=fS Tryz.prog lv X0 131 qpw qpx (kind,pattern,text)
def qq1 (kind:Int) (pattern:ByteArray) (text:ByteArray):Option ((Bool × Nat × (Int × Int)) × (List ByteArray)) :=
 (brE ((decide (kind<1))==false)
 (brE (decide (kind > 3))
 (Option.bind (q5d 4 (-2)) fun r0 =>
 (some ((false,(0,(r0.1,r0.2))),(EC.decL q26v []))))
 (brE (decide ((pattern.size:Int) > 200))
 (Option.bind (q5d 1 (-3)) fun r0 =>
 (some ((false,(0,(r0.1,r0.2))),(EC.decL q26v []))))
 (Option.bind (qqe pattern) fun r0 =>
 (brE ((kind==3)==true)
 (brE (!r0.1.2)
 (Option.bind (q5d 11 (IntKind.wrap .i64 ((pattern.size:Int) - 1))) fun r1 =>
 (some ((false,(0,(r1.1,r1.2))),(EC.decL q26v []))))
 (brE (decide ((text.size:Int) > 4000))
 (Option.bind (q5d 1 (-1)) fun r1 =>
 (some ((false,(0,(r1.1,r1.2))),(EC.decL q26v []))))
 (brE (kind==1)
 (Option.bind (q6k pattern text) fun r1 =>
 (Option.bind q6e fun r2 =>
 (some ((r1,(0,(r2.1,r2.2))),(EC.decL q26v [])))))
 (brE (kind==2)
 (Option.bind (q5w text) fun r1 =>
 (Option.bind (q5w pattern) fun r2 =>
 (Option.bind (contP r1 r2) fun r3 =>
 (Option.bind q6e fun r4 =>
 (some ((r3,(0,(r4.1,r4.2))),(EC.decL q26v [])))))))
 (gdE (EC.isL q26l (EC.encL q26l r0.2)) <|
 (Option.bind (qrc (EC.decL q26l (EC.encL q26l r0.2)) text) fun r1 =>
 (Option.bind q6e fun r2 =>
 (gdE (EC.isL q26v (EC.encL q26v r1.2)) <|
 (some ((r1.1.1,(r1.1.2,(r2.1,r2.2))),(EC.decL q26v (EC.encL q26v r1.2))))))))))))
 (brE (decide ((text.size:Int) > 4000))
 (Option.bind (q5d 1 (-1)) fun r1 =>
 (some ((false,(0,(r1.1,r1.2))),(EC.decL q26v []))))
 (brE (kind==1)
 (Option.bind (q6k pattern text) fun r1 =>
 (Option.bind q6e fun r2 =>
 (some ((r1,(0,(r2.1,r2.2))),(EC.decL q26v [])))))
 (brE (kind==2)
 (Option.bind (q5w text) fun r1 =>
 (Option.bind (q5w pattern) fun r2 =>
 (Option.bind (contP r1 r2) fun r3 =>
 (Option.bind q6e fun r4 =>
 (some ((r3,(0,(r4.1,r4.2))),(EC.decL q26v [])))))))
 (gdE (EC.isL q26l (EC.encL q26l r0.2)) <|
 (Option.bind (qrc (EC.decL q26l (EC.encL q26l r0.2)) text) fun r1 =>
 (Option.bind q6e fun r2 =>
 (gdE (EC.isL q26v (EC.encL q26v r1.2)) <|
 (some ((r1.1.1,(r1.1.2,(r2.1,r2.2))),(EC.decL q26v (EC.encL q26v r1.2)))))))))))))))
 (Option.bind (q5d 4 (-2)) fun r0 =>
 (some ((false,(0,(r0.1,r0.2))),(EC.decL q26v [])))))
theorem qpz {kind} {pattern} {text} {r} (h:qq1 kind pattern text=some r):qq0 kind pattern text=some r :=
 qf2 (es:=q10e) (hs:=[]) [] Tryz.func131 rfl (by kernel_rfl) rfl (by kernel_rfl) (by kernel_rfl) trivial trivial (by kernel_rfl) h
def qpy:=entS Tryz.prog lv X0 131 [] qpw qpx (fun x=>qq0 x.1 x.2.1 x.2.2) (fun _ _ h=>qf1 h)
def q10c:=qpy::q10e
end
end Go.Proofs.YtokahibbkdbndaaGreatDoor
