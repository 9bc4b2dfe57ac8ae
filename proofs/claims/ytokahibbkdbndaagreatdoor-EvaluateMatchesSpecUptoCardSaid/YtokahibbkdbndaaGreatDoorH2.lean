/- Functions of the program as plain functions: made by program from the machine. -/
import Derived.Test.YtokahibbkdbndaaGreatDoorH1
namespace Go.Proofs.YtokahibbkdbndaaGreatDoor
open Go.RowKit
set_option maxRecDepth 100000
noncomputable section
structure S192 where
 one:Bool
 many:Bool
 c:Int
abbrev L192:=List S192
def qav:EC S192 where
 enc x:=[.bool x.one,.bool x.many,.int .u8 x.c]
 dec c:=⟨q7q (c.getD 0 .ne),q7q (c.getD 1 .ne),qqd (c.getD 2 .ne)⟩
 is c:=isE [.bool,.bool,.int .u8] 0 c
 enc_dec h:=q9x h
 dec_enc x:=by rfl
 is_enc x:=by simp [isE,isK]
theorem qbp (x:S192):qav.enc x=[.bool x.one,.bool x.many,.int .u8 x.c]:=rfl
theorem qqn (xs:List S192) (n:Nat):isE [.bool,.bool,.int .u8] 0 ((qav.encL xs).getD n [])=decide (n<xs.length):=by
 by_cases h:n<xs.length
 ·simp only [EC.getD_lt _ _ h];simp [qbp,isE,isK,h]
 ·simp only [EC.getD_ge _ _ (Nat.not_lt.1 h)];simp [isE,isK,h]
theorem q44 (xs:List S192) (n:Nat):q7q (((qav.encL xs).getD n []).getD 0 .ne)=(xs.getD n (qav.dec [])).one:=by
 by_cases h:n<xs.length
 ·simp only [EC.getD_lt _ _ h];simp [qbp,h,q7q,List.getD_eq_getElem?_getD]
 ·simp only [EC.getD_ge _ _ (Nat.not_lt.1 h)];simp [Nat.not_lt.1 h,qav,qqd,q7q,List.getD_eq_getElem?_getD]
theorem q45 (xs:List S192) (n:Nat):q7q (((qav.encL xs).getD n []).getD 1 .ne)=(xs.getD n (qav.dec [])).many:=by
 by_cases h:n<xs.length
 ·simp only [EC.getD_lt _ _ h];simp [qbp,h,q7q,List.getD_eq_getElem?_getD]
 ·simp only [EC.getD_ge _ _ (Nat.not_lt.1 h)];simp [Nat.not_lt.1 h,qav,qqd,q7q,List.getD_eq_getElem?_getD]
theorem q46 (xs:List S192) (n:Nat):qqd (((qav.encL xs).getD n []).getD 2 .ne)=(xs.getD n (qav.dec [])).c:=by
 by_cases h:n<xs.length
 ·simp only [EC.getD_lt _ _ h];simp [qbp,h,qqd,List.getD_eq_getElem?_getD]
 ·simp only [EC.getD_ge _ _ (Nat.not_lt.1 h)];simp [Nat.not_lt.1 h,qav,qqd,q7q,List.getD_eq_getElem?_getD]
theorem qsa (a0:Bool) (a1:Bool) (a2:Int):([.bool a0,.bool a1,.int .u8 a2]:List C)=qav.enc (⟨a0,a1,a2⟩:S192):=rfl
theorem q3x (xs:List S192) (a0:Bool) (a1:Bool) (a2:Int):qav.encL xs++[[.bool a0,.bool a1,.int .u8 a2]]=qav.encL (xs++[(⟨a0,a1,a2⟩:S192)]):=by rw [qsa];simp [EC.encL]
theorem q3j (xs:List S192):(qav.encL xs).all (fun (el:List C)=>el.length==3)=true:=by induction xs with|nil=>rfl|cons x xs ih=>first|(simp [EC.encL,qbp];done)|simpa [EC.encL,qbp] using ih
def qw4:=(qrf (vC cStr))
abbrev z3l:=(vC (cInt .i64))
def qwe:=sLS [0,4,5] (qrd (vC cStr) (qrd (vRow 0) (qrf z3l))) (qrf (qv4 (bRow qav))) [false] [] (by decide) (fun _=>rfl)
abbrev z3n:=(qrd z3l (qrf (vC cBool)))
def qwd:=sLS [0,4,5,9] (qrd (vC cStr) (qrd (vRow 0) z3n)) (qrf (qv4 (bRow qav))) [false] [] (by decide) (fun _=>rfl)
def qwc:=sLS [2,3] (qrd (vRow 0) (qrf (vC cBool))) (qrf (qv4 (bRow qav))) [false] [] (by decide) (fun _=>rfl)
def qwb:=oOr 1 qwc (oAt 2 qwd) (fun x=>(by decide:(2:Nat)≠1))
def qw8 (p:BA) (out:Nat) (i:Int) (b0:L192):=lS Tryz.prog lv X0 152 50 (qnb (cdF Tryz.f152) 3) qwe qwb ((p,out,i),b0)
abbrev z7 (p:BA) (i:Int):=(((UInt8.toNat (Array.getD p.data (Int.toNat i) (0:UInt8))):Nat):Int)
abbrev z8 (p:BA) (i:Int):=(C.int Go.IntKind.u8 (((UInt8.toNat (Array.getD p.data (Int.toNat (wI i)) (0:UInt8))):Nat):Int))
abbrev za (out:Nat):=(out+(List.length [[(C.bool false),(C.bool true),(C.int Go.IntKind.u8 0)]]))
abbrev zb (out:Nat):=(out+(List.length [[(C.bool true),(C.bool false),(C.int Go.IntKind.u8 0)]]))
abbrev ze (p:BA) (i:Int):=(List.length [[(C.bool false),(C.bool false),(C.int Go.IntKind.u8 (z7 p i))]])
def qwf (p:BA) (out:Nat) (i:Int) (b0:L192):Oq (((Nat×Bool)×L192)⊕((BA×Nat×Int×Bool)×L192)) :=
 (brE (decide (i<(p.size:Int)))
 (gdE ((p0 i)&&(decide ((Int.toNat i)<p.size)))<|
 (brE ((z7 p i)==42)
 (gdE ((((aL [[(C.bool false),(C.bool true),(C.int Go.IntKind.u8 0)]] 3)&&(aL (EC.encL qav b0) 3))&&(dQ (za out) 3))&&(decide ((za out)≤9223372036854775807)))<|
 (gdE (EC.isL qav ((EC.encL qav b0)++[[(C.bool false),(C.bool true),(C.int Go.IntKind.u8 0)]]))<|
 (qw8 p (za out) (wI i) (EC.decL qav ((EC.encL qav b0)++[[(C.bool false),(C.bool true),(C.int Go.IntKind.u8 0)]])))))
 (brE ((z7 p i)==63)
 (gdE ((((aL [[(C.bool true),(C.bool false),(C.int Go.IntKind.u8 0)]] 3)&&(aL (EC.encL qav b0) 3))&&(dQ (zb out) 3))&&(decide ((zb out)≤9223372036854775807)))<|
 (gdE (EC.isL qav ((EC.encL qav b0)++[[(C.bool true),(C.bool false),(C.int Go.IntKind.u8 0)]]))<|
 (qw8 p (zb out) (wI i) (EC.decL qav ((EC.encL qav b0)++[[(C.bool true),(C.bool false),(C.int Go.IntKind.u8 0)]])))))
 (brE ((z7 p i)==92)
 (brE ((wI i)==(p.size:Int))
 (some (.inl ((0,false),(EC.decL qav []))))
 (gdE ((p0 (wI i))&&(decide ((Int.toNat (wI i))<p.size)))<|
 (gdE ((((aL [[(C.bool false),(C.bool false),(z8 p i)]] 3)&&(aL (EC.encL qav b0) 3))&&(dQ (out+(List.length [[(C.bool false),(C.bool false),(z8 p i)]])) 3))&&(decide ((out+(List.length [[(C.bool false),(C.bool false),(z8 p i)]]))≤9223372036854775807)))<|
 (gdE (EC.isL qav ((EC.encL qav b0)++[[(C.bool false),(C.bool false),(z8 p i)]]))<|
 (qw8 p (out+(List.length [[(C.bool false),(C.bool false),(z8 p i)]])) (wI (wI i)) (EC.decL qav ((EC.encL qav b0)++[[(C.bool false),(C.bool false),(z8 p i)]])))))))
 (gdE ((p0 i)&&(decide ((Int.toNat i)<p.size)))<|
 (gdE ((((aL [[(C.bool false),(C.bool false),(C.int Go.IntKind.u8 (z7 p i))]] 3)&&(aL (EC.encL qav b0) 3))&&(dQ (out+(ze p i)) 3))&&(decide ((out+(ze p i))≤9223372036854775807)))<|
 (gdE (EC.isL qav ((EC.encL qav b0)++[[(C.bool false),(C.bool false),(C.int Go.IntKind.u8 (z7 p i))]]))<|
 (qw8 p (out+(ze p i)) (wI i) (EC.decL qav ((EC.encL qav b0)++[[(C.bool false),(C.bool false),(C.int Go.IntKind.u8 (z7 p i))]]))))))))))
 (gL qav b0<|
 (some (.inr ((p,(out,(i,false))),(dL qav b0))))))
theorem qwa {p out i b0 r} (h:qwf p out i b0=some r):qw8 p out i b0=some r :=
 qrh (es:=q1jg) (hs:=[]) [] (by kernel_rfl) trivial trivial (by kernel_rfl) h
def qw9:=qs5 Tryz.prog lv X0 3 (qnb (cdF Tryz.f152) 3) qwe qwb (fun x=>qw8 x.1.1 x.1.2.1 x.1.2.2 x.2) (fun _ _ h=>qrg h)
def qw5:Cod (V×List B) ((Nat×Bool)×(List S192)):=(cPair (vTup (qrd (vRow 0) (qrf (vC cBool)))) (qrf (bRow qav)))
def qwg (p:BA):=fS Tryz.prog lv X0 152 qw4 qw5 p
def qwh (p:BA):Oq ((Nat×Bool)×L192) :=
 ((qw8 p 0 0 (EC.decL qav [])).bind fun r0 =>
 (Sum.elim (fun r1=>(gdE (EC.isL qav (EC.encL qav r1.2))<|
 (some ((r1.1.1,r1.1.2),(dL qav r1.2)))))
 (fun r1=>(gdE (EC.isL qav (EC.encL qav r1.2))<|
 (some ((r1.1.2.1,true),(dL qav r1.2))))) r0))
theorem qw7 {p r} (h:qwh p=some r):qwg p=some r :=
 qjn (es:=q1jg) (hs:=[]) [qw9] Tryz.func152 rfl (by kernel_rfl) rfl (by kernel_rfl) (by kernel_rfl) ⟨⟨_,rfl,rfl⟩,trivial⟩ trivial (by kernel_rfl) h
def qw6:=entS Tryz.prog lv X0 152 [] qw4 qw5 (fun x=>qwg x) (fun _ _ h=>qjm h)
def q1j8:=qw6::q1jg
def qk1:=(qrd (vAgg (qrd (vC cBool) (qrd (vC cBool) (qrf (vC (cInt .u8)))))) (qrd z3l (qrd (vEptr (qrf cStr) 0) (qrf (vEptr (qrf cStr) 0)))))
def qk2:Cod (V×List B) Bool:=(cFstU (cPair (vC cBool) qre))
def fits_s (e_one e_many:Bool) (e_c j:Int) (c2 c3:BA):=fS Tryz.prog lv X0 165 qk1 qk2 ((e_one,e_many,e_c),j,c2,c3)
def fits_t (e_one e_many:Bool) (e_c j:Int) (c2 c3:BA):Oq Bool :=
 (brE ((decide (j<(c2.size:Int)))==true)
 (brE (e_one==false)
 ((q6k (ByteArray.mk (List.toArray [(UInt8.ofNat (Int.toNat e_c))]))).bind fun r0 =>
 (gdE ((p0 (wI j))&&(decide ((wI j)≤(c3.size:Int))))<|
 (gdE ((p0 j)&&(decide (j≤(((Int.toNat (wI j)):Nat):Int))))<|
 (some (r0.toList==(ByteArray.toList (ByteArray.extract c3 (Int.toNat j) (Int.toNat (wI j)))))))))
 (some true))
 (some false))
theorem qk3 {e_one e_many e_c j c2 c3 r} (h:fits_t e_one e_many e_c j c2 c3=some r):fits_s e_one e_many e_c j c2 c3=some r :=
 qjn (es:=q1j8) (hs:=[]) [] Tryz.func165 rfl (by kernel_rfl) rfl (by kernel_rfl) (by kernel_rfl) trivial trivial (by kernel_rfl) h
def fits_e:=entS Tryz.prog lv X0 165 [] qk1 qk2 (fun x=>fits_s x.1.1 x.1.2.1 x.1.2.2 x.2.1 x.2.2.1 x.2.2.2) (fun _ _ h=>qjm h)
def q1iq:=fits_e::q1j8
def qax:EC Bool where
 enc x:=[.bool x]
 dec c:=q7q (c.getD 0 .ne)
 is c:=isE [.bool] 0 c
 enc_dec h:=q9x h
 dec_enc x:=by rfl
 is_enc x:=by simp [isE,isK]
theorem enc_4 (x:Bool):qax.enc x=[.bool x]:=rfl
theorem qqo (xs:List Bool) (n:Nat):isE [.bool] 0 ((qax.encL xs).getD n [])=decide (n<xs.length):=by
 by_cases h:n<xs.length
 ·simp only [EC.getD_lt _ _ h];simp [enc_4,isE,isK,h]
 ·simp only [EC.getD_ge _ _ (Nat.not_lt.1 h)];simp [isE,isK,h]
theorem q4h (xs:List Bool) (n:Nat):q7q (((qax.encL xs).getD n []).getD 0 .ne)=(xs.getD n (qax.dec [])):=by
 by_cases h:n<xs.length
 ·simp only [EC.getD_lt _ _ h];simp [enc_4,h,q7q,List.getD_eq_getElem?_getD]
 ·simp only [EC.getD_ge _ _ (Nat.not_lt.1 h)];simp [Nat.not_lt.1 h,qax,q7q,List.getD_eq_getElem?_getD]
theorem qs2 (xs:List Bool) (n:Nat) (h:n<xs.length):((qax.encL xs).getD n []).length=1:=by rw [EC.getD_lt _ _ h];rfl
theorem q1ft (xs:List Bool) (n:Nat) (a0:Bool):(qax.encL xs).set n (splice ((qax.encL xs).getD n []) 0 [.bool a0])=qax.encL (xs.set n (a0)):=by
 by_cases h:n<xs.length
 ·rw [EC.getD_lt _ _ h];simp [EC.encL,List.map_set,enc_4,splice]
 ·simp [EC.encL,List.set_eq_of_length_le,Nat.not_lt.1 h]
def qb4:EC (List Bool) where
 enc x:=[.sl (qax.encL x)]
 dec c:=qax.decL (slOf (c.getD 0 .ne))
 is c:=isE [.sl] 0 c&&qax.isL (slOf (c.getD 0 .ne))
 enc_dec h:=by
  simp only [Bool.and_eq_true] at h
  have h0:=q9x h.1
  simp only [decE,decC] at h0
  simp only [EC.encL_decL _ h.2]
  exact h0
 dec_enc x:=by simp [slOf]
 is_enc x:=by simp [isE,isK,slOf]
theorem enc_75 (x:(List Bool)):qb4.enc x=[.sl (qax.encL x)]:=rfl
theorem q50 (xs:List (List Bool)) (n:Nat):slOf (((qb4.encL xs).getD n []).getD 0 .ne)=qax.encL (xs.getD n (qb4.dec [])):=by
 by_cases h:n<xs.length
 ·simp only [EC.getD_lt _ _ h];simp [enc_75,h,slOf,List.getD_eq_getElem?_getD]
 ·simp only [EC.getD_ge _ _ (Nat.not_lt.1 h)];simp [Nat.not_lt.1 h,qb4,slOf,List.getD_eq_getElem?_getD,EC.decL,EC.encL]
theorem len_75 (xs:List (List Bool)) (n:Nat) (h:n<xs.length):((qb4.encL xs).getD n []).length=1:=by rw [EC.getD_lt _ _ h];rfl
abbrev z3t:=(vC (cSl qav))
def qwi:=(qrd z3t (qrf (vC cStr)))
abbrev z3m:=(qrd (qv4 (bBox (qrf (vC cStr)))) (qrd (qv4 (bBox (qrf (vC cStr)))) (qrd (qv4 (bTab qb4 (vRow 3))) (qrf (qv4 (bRow qax))))))
abbrev z3r:=(vFn 165 (qrd (vPtr 0 0) (qrf (vPtr 1 0))))
abbrev z3s:=(qrd z3l (qrf z3l))
def qxc:=sLS [0,3,7,8,9,10] (qrd z3t (qrd (vPtr 0 0) (qrd z3r (qrd (vRow 2) z3s)))) z3m [false,false,false,false] [] (by decide) (fun _=>rfl)
def qxb:=sLS [0,3,7,8,9,10,39] (qrd z3t (qrd (vPtr 0 0) (qrd z3r (qrd (vRow 2) (qrd z3l z3n))))) z3m [false,false,false,false] [] (by decide) (fun _=>rfl)
def qxa:=oAt 4 qxb
def qx7 (l:L192) (can:Nat) (i j:Int) (b0 b1:BA) (b2:(List (List Bool))) (b2_1 b2_2:Nat) (b3:(List Bool)):=lS Tryz.prog lv X0 155 166 (qnb (cdF Tryz.f155) 9) qxc qxa ((l,(),((),()),can,i,j),(b0,b1,(b2,b2_1,b2_2),b3))
abbrev zf (i j:Int) (b2:(List (List Bool))):=((decide ((Int.toNat j)<(List.length (slOf (List.getD (List.getD (EC.encL qb4 b2) (Int.toNat i) []) 0 C.ne)))))&&(isE [K1.bool] 0 (List.getD (slOf (List.getD (List.getD (EC.encL qb4 b2) (Int.toNat i) []) 0 C.ne)) (Int.toNat j) [])))
abbrev zg (j:Int) (b3:(List Bool)):=(List.getD (EC.encL qax b3) (Int.toNat j) [])
abbrev zh (i:Int) (b2:(List (List Bool))):=(List.getD (EC.encL qb4 b2) (Int.toNat i) [])
abbrev zi (j:Int) (b3:(List Bool)):=((decide ((Int.toNat j)<(lN qax b3)))&&((List.length (zg j b3))==1))
abbrev zj (i:Int) (b2:(List (List Bool))):=(List.getD (EC.encL qb4 b2) (Int.toNat (wI i)) [])
abbrev zk (j:Int) (b3:(List Bool)):=(List.set (EC.encL qax b3) (Int.toNat j) (splice (zg j b3) 0 [(C.bool (q7q (List.getD (List.getD (EC.encL qax b3) (Int.toNat (wI j)) []) 0 C.ne)))]))
abbrev zm (j:Int) (b3:(List Bool)):=((decide ((Int.toNat (wI j))<(lN qax b3)))&&((List.length (List.getD (EC.encL qax b3) (Int.toNat (wI j)) []))==1))
abbrev zn (i j:Int) (b2:(List (List Bool))):=((decide ((Int.toNat (wI j))<(List.length (slOf (List.getD (zh i b2) 0 C.ne)))))&&(isE [K1.bool] 0 (List.getD (slOf (List.getD (zh i b2) 0 C.ne)) (Int.toNat (wI j)) [])))
abbrev zo (j:Int) (b2_2:Nat):=((p0 j)&&(decide (j<((b2_2:Nat):Int))))
abbrev zq (i j:Int) (b2:(List (List Bool))) (b3:(List Bool)):=(List.set (EC.encL qax b3) (Int.toNat j) (splice (zg j b3) 0 [(C.bool (q7q (List.getD (List.getD (slOf (List.getD (zh i b2) 0 C.ne)) (Int.toNat (wI j)) []) 0 C.ne)))]))
abbrev zr (j:Int) (b3:(List Bool)):=(List.set (EC.encL qax b3) (Int.toNat j) (splice (zg j b3) 0 [(C.bool false)]))
abbrev zt (j:Int) (b3:(List Bool)):=(isP [K1.bool] 0 (List.getD (EC.encL qax b3) (Int.toNat (wI j)) []))
abbrev zu (i:Int) (b2:(List (List Bool))):=(slOf (List.getD (zj i b2) 0 C.ne))
abbrev zw (j:Int):=(IntKind.wrap .i64 (j - 1))
abbrev zx (l:L192) (i:Int):=(List.getD (EC.encL qav l) (Int.toNat i) [])
abbrev zy (j:Int) (b2_2:Nat):=((p0 (wI j))&&(decide ((wI j)<((b2_2:Nat):Int))))
abbrev z10 (can:Nat) (i:Int):=((p0 i)&&(decide (i<((can:Nat):Int))))
abbrev z11 (j:Int) (b3:(List Bool)):=(List.set (EC.encL qax b3) (Int.toNat j) (splice (zg j b3) 0 [(C.bool true)]))
abbrev z12 (i:Int) (b2:(List (List Bool))):=(decide ((Int.toNat i)<(lN qb4 b2)))
abbrev z13 (can:Nat) (i:Int):=((p0 (wI i))&&(decide ((wI i)<((can:Nat):Int))))
def qxd (l:L192) (can:Nat) (i j:Int) (b0 b1:BA) (b2:(List (List Bool))) (b2_1 b2_2:Nat) (b3:(List Bool)):Oq ((L192×Unit×(Unit×Unit)×Nat×Int×Int×Bool)×(BA×BA×((List (List Bool))×Nat×Nat)×(List Bool))) :=
 (brE (decide (j≥0))
 (brE (i==(lN qav l:Int))
 (gdE (z10 can i)<|
 (gdE (z12 i b2)<|
 (brE ((Int.toNat i)==b2_1)
 (gdE (zo j b2_2)<|
 (gdE (zi j b3)<|
 (gL qav l<|
 (gL qb4 b2<|
 (gdE (EC.isL qax (List.set (EC.encL qax b3) (Int.toNat j) (splice (zg j b3) 0 [(C.bool (j==(b0.size:Int)))])))<|
 (qx7 (dL qav l) can i (zw j) b0 b1 (dL qb4 b2) b2_1 b2_2 (EC.decL qax (List.set (EC.encL qax b3) (Int.toNat j) (splice (zg j b3) 0 [(C.bool (j==(b0.size:Int)))])))))))))
 (gdE ((List.length (zh i b2))==1)<|
 (gdE (isP [K1.sl] 0 (zh i b2))<|
 (gdE (p0 j)<|
 (gdE (zf i j b2)<|
 none)))))))
 (gdE (p0 i)<|
 (gdE (eC qav l i [K1.bool,K1.bool,(K1.int Go.IntKind.u8)])<|
 (brE (q7q (List.getD (zx l i) 1 C.ne))
 (gdE (z10 can i)<|
 (gdE (z12 i b2)<|
 (brE ((Int.toNat i)==b2_1)
 (gdE (z13 can i)<|
 (gdE (decide ((Int.toNat (wI i))<(lN qb4 b2)))<|
 (brE ((Int.toNat (wI i))==b2_1)
 (gdE (zo j b2_2)<|
 (gdE (zi j b3)<|
 (gdE (isP [K1.bool] 0 (zg j b3))<|
 (brE ((q7q (List.getD (zg j b3) 0 C.ne))==false)
 (brE ((decide (j<(b0.size:Int)))==true)
 (gdE (z10 can i)<|
 (gdE (z12 i b2)<|
 (brE ((Int.toNat i)==b2_1)
 (gdE (zy j b2_2)<|
 (gdE (zm j b3)<|
 (gdE (zt j b3)<|
 (gdE (zo j b2_2)<|
 (gdE (zi j b3)<|
 (gL qav l<|
 (gL qb4 b2<|
 (gdE (EC.isL qax (zk j b3))<|
 (qx7 (dL qav l) can i (zw j) b0 b1 (dL qb4 b2) b2_1 b2_2 (EC.decL qax (zk j b3)))))))))))
 (gdE ((List.length (zh i b2))==1)<|
 (gdE (isP [K1.sl] 0 (zh i b2))<|
 (gdE (p0 (wI j))<|
 (gdE (zn i j b2)<|
 (gdE (zo j b2_2)<|
 (gdE (zi j b3)<|
 (gL qav l<|
 (gL qb4 b2<|
 (gdE (EC.isL qax (zq i j b2 b3))<|
 (qx7 (dL qav l) can i (zw j) b0 b1 (dL qb4 b2) b2_1 b2_2 (EC.decL qax (zq i j b2 b3)))))))))))))))
 (gdE (zo j b2_2)<|
 (gdE (zi j b3)<|
 (gL qav l<|
 (gL qb4 b2<|
 (gdE (EC.isL qax (zr j b3))<|
 (qx7 (dL qav l) can i (zw j) b0 b1 (dL qb4 b2) b2_1 b2_2 (EC.decL qax (zr j b3)))))))))
 (gdE (zo j b2_2)<|
 (gdE (zi j b3)<|
 (gL qav l<|
 (gL qb4 b2<|
 (gdE (EC.isL qax (z11 j b3))<|
 (qx7 (dL qav l) can i (zw j) b0 b1 (dL qb4 b2) b2_1 b2_2 (EC.decL qax (z11 j b3))))))))))))
 (gdE ((List.length (zj i b2))==1)<|
 (gdE (isP [K1.sl] 0 (zj i b2))<|
 (gdE (p0 j)<|
 (gdE ((decide ((Int.toNat j)<(List.length (zu i b2))))&&(isE [K1.bool] 0 (List.getD (zu i b2) (Int.toNat j) [])))<|
 (brE ((q7q (List.getD (List.getD (zu i b2) (Int.toNat j) []) 0 C.ne))==false)
 (brE ((decide (j<(b0.size:Int)))==true)
 (gdE (z10 can i)<|
 (gdE (z12 i b2)<|
 (brE ((Int.toNat i)==b2_1)
 (gdE (zy j b2_2)<|
 (gdE (zm j b3)<|
 (gdE (zt j b3)<|
 (gdE (zo j b2_2)<|
 (gdE (zi j b3)<|
 (gL qav l<|
 (gL qb4 b2<|
 (gdE (EC.isL qax (zk j b3))<|
 (qx7 (dL qav l) can i (zw j) b0 b1 (dL qb4 b2) b2_1 b2_2 (EC.decL qax (zk j b3)))))))))))
 (gdE ((List.length (zh i b2))==1)<|
 (gdE (isP [K1.sl] 0 (zh i b2))<|
 (gdE (p0 (wI j))<|
 (gdE (zn i j b2)<|
 (gdE (zo j b2_2)<|
 (gdE (zi j b3)<|
 (gL qav l<|
 (gL qb4 b2<|
 (gdE (EC.isL qax (zq i j b2 b3))<|
 (qx7 (dL qav l) can i (zw j) b0 b1 (dL qb4 b2) b2_1 b2_2 (EC.decL qax (zq i j b2 b3)))))))))))))))
 (gdE (zo j b2_2)<|
 (gdE (zi j b3)<|
 (gL qav l<|
 (gL qb4 b2<|
 (gdE (EC.isL qax (zr j b3))<|
 (qx7 (dL qav l) can i (zw j) b0 b1 (dL qb4 b2) b2_1 b2_2 (EC.decL qax (zr j b3)))))))))
 (gdE (zo j b2_2)<|
 (gdE (zi j b3)<|
 (gL qav l<|
 (gL qb4 b2<|
 (gdE (EC.isL qax (z11 j b3))<|
 (qx7 (dL qav l) can i (zw j) b0 b1 (dL qb4 b2) b2_1 b2_2 (EC.decL qax (z11 j b3))))))))))))))))
 (gdE ((List.length (zh i b2))==1)<|
 (gdE (isP [K1.sl] 0 (zh i b2))<|
 (gdE (z13 can i)<|
 (gdE (decide ((Int.toNat (wI i))<(lN qb4 b2)))<|
 (brE ((Int.toNat (wI i))==b2_1)
 (gdE (zo j b2_2)<|
 (gdE (zi j b3)<|
 (gdE (isP [K1.bool] 0 (zg j b3))<|
 (brE ((q7q (List.getD (zg j b3) 0 C.ne))==false)
 (brE ((decide (j<(b0.size:Int)))==true)
 (gdE (z10 can i)<|
 (gdE (z12 i b2)<|
 (brE ((Int.toNat i)==b2_1)
 (gdE (zy j b2_2)<|
 (gdE (zm j b3)<|
 (gdE (zt j b3)<|
 (gdE (p0 j)<|
 (gdE (zf i j b2)<|
 none)))))
 (gdE ((List.length (zh i b2))==1)<|
 (gdE (isP [K1.sl] 0 (zh i b2))<|
 (gdE (p0 (wI j))<|
 (gdE (zn i j b2)<|
 (gdE (p0 j)<|
 (gdE (zf i j b2)<|
 none)))))))))
 (gdE (p0 j)<|
 (gdE (zf i j b2)<|
 none)))
 (gdE (p0 j)<|
 (gdE (zf i j b2)<|
 none))))))
 (gdE ((List.length (zj i b2))==1)<|
 (gdE (isP [K1.sl] 0 (zj i b2))<|
 (gdE (p0 j)<|
 (gdE ((decide ((Int.toNat j)<(List.length (zu i b2))))&&(isE [K1.bool] 0 (List.getD (zu i b2) (Int.toNat j) [])))<|
 (brE ((q7q (List.getD (List.getD (zu i b2) (Int.toNat j) []) 0 C.ne))==false)
 (brE ((decide (j<(b0.size:Int)))==true)
 (gdE (z10 can i)<|
 (gdE (z12 i b2)<|
 (brE ((Int.toNat i)==b2_1)
 (gdE (zy j b2_2)<|
 (gdE (zm j b3)<|
 (gdE (zt j b3)<|
 (gdE (p0 j)<|
 (gdE (zf i j b2)<|
 none)))))
 (gdE ((List.length (zh i b2))==1)<|
 (gdE (isP [K1.sl] 0 (zh i b2))<|
 (gdE (p0 (wI j))<|
 (gdE (zn i j b2)<|
 (gdE (p0 j)<|
 (gdE (zf i j b2)<|
 none)))))))))
 (gdE (p0 j)<|
 (gdE (zf i j b2)<|
 none)))
 (gdE (p0 j)<|
 (gdE (zf i j b2)<|
 none)))))))))))))))
 (gdE (z10 can i)<|
 (gdE (z12 i b2)<|
 (brE ((Int.toNat i)==b2_1)
 (gdE (p0 i)<|
 (gdE (eC qav l i [K1.bool,K1.bool,(K1.int Go.IntKind.u8)])<|
 ((fits_s (q7q (List.getD (zx l i) 0 C.ne)) (q7q (List.getD (zx l i) 1 C.ne)) (qqd (List.getD (zx l i) 2 C.ne)) j b0 b1).bind fun r0 =>
 (brE (r0==true)
 (gdE (z13 can i)<|
 (gdE (decide ((Int.toNat (wI i))<(lN qb4 b2)))<|
 (brE ((Int.toNat (wI i))==b2_1)
 (gdE (zy j b2_2)<|
 (gdE (zm j b3)<|
 (gdE (zt j b3)<|
 (gdE (zo j b2_2)<|
 (gdE (zi j b3)<|
 (gL qav l<|
 (gL qb4 b2<|
 (gdE (EC.isL qax (zk j b3))<|
 (qx7 (dL qav l) can i (zw j) b0 b1 (dL qb4 b2) b2_1 b2_2 (EC.decL qax (zk j b3)))))))))))
 (gdE ((List.length (zj i b2))==1)<|
 (gdE (isP [K1.sl] 0 (zj i b2))<|
 (gdE (p0 (wI j))<|
 (gdE ((decide ((Int.toNat (wI j))<(List.length (zu i b2))))&&(isE [K1.bool] 0 (List.getD (zu i b2) (Int.toNat (wI j)) [])))<|
 (gdE (zo j b2_2)<|
 (gdE (zi j b3)<|
 (gL qav l<|
 (gL qb4 b2<|
 (gdE (EC.isL qax (List.set (EC.encL qax b3) (Int.toNat j) (splice (zg j b3) 0 [(C.bool (q7q (List.getD (List.getD (zu i b2) (Int.toNat (wI j)) []) 0 C.ne)))])))<|
 (qx7 (dL qav l) can i (zw j) b0 b1 (dL qb4 b2) b2_1 b2_2 (EC.decL qax (List.set (EC.encL qax b3) (Int.toNat j) (splice (zg j b3) 0 [(C.bool (q7q (List.getD (List.getD (zu i b2) (Int.toNat (wI j)) []) 0 C.ne)))]))))))))))))))))
 (gdE (zo j b2_2)<|
 (gdE (zi j b3)<|
 (gL qav l<|
 (gL qb4 b2<|
 (gdE (EC.isL qax (zr j b3))<|
 (qx7 (dL qav l) can i (zw j) b0 b1 (dL qb4 b2) b2_1 b2_2 (EC.decL qax (zr j b3))))))))))))
 (gdE ((List.length (zh i b2))==1)<|
 (gdE (isP [K1.sl] 0 (zh i b2))<|
 (gdE (p0 i)<|
 (gdE (eC qav l i [K1.bool,K1.bool,(K1.int Go.IntKind.u8)])<|
 ((fits_s (q7q (List.getD (zx l i) 0 C.ne)) (q7q (List.getD (zx l i) 1 C.ne)) (qqd (List.getD (zx l i) 2 C.ne)) j b0 b1).bind fun r0 =>
 (brE (r0==true)
 (gdE (z13 can i)<|
 (gdE (decide ((Int.toNat (wI i))<(lN qb4 b2)))<|
 (brE ((Int.toNat (wI i))==b2_1)
 (gdE (zy j b2_2)<|
 (gdE (zm j b3)<|
 (gdE (zt j b3)<|
 (gdE (p0 j)<|
 (gdE (zf i j b2)<|
 none)))))
 (gdE ((List.length (zj i b2))==1)<|
 (gdE (isP [K1.sl] 0 (zj i b2))<|
 (gdE (p0 (wI j))<|
 (gdE ((decide ((Int.toNat (wI j))<(List.length (zu i b2))))&&(isE [K1.bool] 0 (List.getD (zu i b2) (Int.toNat (wI j)) [])))<|
 (gdE (p0 j)<|
 (gdE (zf i j b2)<|
 none)))))))))
 (gdE (p0 j)<|
 (gdE (zf i j b2)<|
 none)))))))))))))))
 (gL qav l<|
 (gL qb4 b2<|
 (gL qax b3<|
 (some (((dL qav l),((),(((),()),(can,(i,(j,false)))))),(b0,(b1,(((dL qb4 b2),(b2_1,b2_2)),(dL qax b3))))))))))
theorem qx9 {l can i j b0 b1 b2 b2_1 b2_2 b3 r} (h:qxd l can i j b0 b1 b2 b2_1 b2_2 b3=some r):qx7 l can i j b0 b1 b2 b2_1 b2_2 b3=some r :=
 qrh (es:=q1iq) (hs:=[]) [] (by kernel_rfl) trivial trivial (by kernel_rfl) h
def qx8:=qs5 Tryz.prog lv X0 9 (qnb (cdF Tryz.f155) 9) qxc qxa (fun x=>qx7 x.1.1 x.1.2.2.2.1 x.1.2.2.2.2.1 x.1.2.2.2.2.2 x.2.1 x.2.2.1 x.2.2.2.1.1 x.2.2.2.1.2.1 x.2.2.2.1.2.2 x.2.2.2.2) (fun _ _ h=>qrg h)
def qx5:=sLS [0,3,7,8,9] (qrd z3t (qrd (vPtr 0 0) (qrd z3r (qrd (vRow 2) (qrf z3l))))) z3m [false,false,false,false] [] (by decide) (fun _=>rfl)
def qx4:=sLS [0,3,7,8,9,26] (qrd z3t (qrd (vPtr 0 0) (qrd z3r (qrd (vRow 2) z3n)))) z3m [false,false,false,false] [] (by decide) (fun _=>rfl)
def qx3:=oAt 2 qx4
def qx0 (l:L192) (can:Nat) (i:Int) (b0 b1:BA) (b2:(List (List Bool))) (b2_1 b2_2:Nat) (b3:(List Bool)):=lS Tryz.prog lv X0 155 166 (qnb (cdF Tryz.f155) 5) qx5 qx3 ((l,(),((),()),can,i),(b0,b1,(b2,b2_1,b2_2),b3))
abbrev z14 (b0:BA):=(List.replicate (Int.toNat (wI (b0.size:Int))) [(C.bool false)])
def qx6 (l:L192) (can:Nat) (i:Int) (b0 b1:BA) (b2:(List (List Bool))) (b2_1 b2_2:Nat) (b3:(List Bool)):Oq ((L192×Unit×(Unit×Unit)×Nat×Int×Bool)×(BA×BA×((List (List Bool))×Nat×Nat)×(List Bool))) :=
 (brE (decide (i≥0))
 (gdE ((((decide ((wI (b0.size:Int))=(wI (b0.size:Int))))&&(p0 (wI (b0.size:Int))))&&(decide (((wI (b0.size:Int))*((1:Nat):Int))≤140737488355328)))&&(decide ((wI (b0.size:Int))≤9223372036854775807)))<|
 (gdE ((p0 i)&&(decide (i<((can:Nat):Int))))<|
 (gdE (decide ((Int.toNat i)<(lN qb4 b2)))<|
 (brE (decide (b2_1<(lN qb4 b2)))
 (gL qav l<|
 (gdE (EC.isL qb4 (List.set (EC.encL qb4 b2) b2_1 [(C.sl (EC.encL qax b3))]))<|
 (gdE (EC.isL qax (z14 b0))<|
 (Option.bind (qx7 (dL qav l) can i (b0.size:Int) b0 b1 (EC.decL qb4 (List.set (EC.encL qb4 b2) b2_1 [(C.sl (EC.encL qax b3))])) (Int.toNat i) (Int.toNat (wI (b0.size:Int))) (EC.decL qax (z14 b0))) fun r0 =>
 (gL qav r0.1.1<|
 (gL qb4 r0.2.2.2.1.1<|
 (gL qax r0.2.2.2.2<|
 (qx0 (dL qav r0.1.1) r0.1.2.2.2.1 (IntKind.wrap .i64 (r0.1.2.2.2.2.1 - 1)) r0.2.1 r0.2.2.1 (dL qb4 r0.2.2.2.1.1) r0.2.2.2.1.2.1 r0.2.2.2.1.2.2 (dL qax r0.2.2.2.2)))))))))
 (gL qav l<|
 (gL qb4 b2<|
 (gdE (EC.isL qax (z14 b0))<|
 (Option.bind (qx7 (dL qav l) can i (b0.size:Int) b0 b1 (dL qb4 b2) (Int.toNat i) (Int.toNat (wI (b0.size:Int))) (EC.decL qax (z14 b0))) fun r0 =>
 (gL qav r0.1.1<|
 (gL qb4 r0.2.2.2.1.1<|
 (gL qax r0.2.2.2.2<|
 (qx0 (dL qav r0.1.1) r0.1.2.2.2.1 (IntKind.wrap .i64 (r0.1.2.2.2.2.1 - 1)) r0.2.1 r0.2.2.1 (dL qb4 r0.2.2.2.1.1) r0.2.2.2.1.2.1 r0.2.2.2.1.2.2 (dL qax r0.2.2.2.2)))))))))))))
 (gL qav l<|
 (gL qb4 b2<|
 (gL qax b3<|
 (some (((dL qav l),((),(((),()),(can,(i,false))))),(b0,(b1,(((dL qb4 b2),(b2_1,b2_2)),(dL qax b3))))))))))
theorem qx2 {l can i b0 b1 b2 b2_1 b2_2 b3 r} (h:qx6 l can i b0 b1 b2 b2_1 b2_2 b3=some r):qx0 l can i b0 b1 b2 b2_1 b2_2 b3=some r :=
 qrh (es:=q1iq) (hs:=[]) [qx8] (by kernel_rfl) ⟨⟨_,rfl,rfl⟩,trivial⟩ trivial (by kernel_rfl) h
def qx1:=qs5 Tryz.prog lv X0 5 (qnb (cdF Tryz.f155) 5) qx5 qx3 (fun x=>qx0 x.1.1 x.1.2.2.2.1 x.1.2.2.2.2 x.2.1 x.2.2.1 x.2.2.2.1.1 x.2.2.2.1.2.1 x.2.2.2.1.2.2 x.2.2.2.2) (fun _ _ h=>qrg h)
abbrev z3o:=(qrd (qv4 (bBox (qrf (vC cStr)))) (qrd (qv4 (bTab qb4 (vRow 4))) (qrd (qv4 (bRow qb5)) (qrd (qv4 (bBox (qrd (vC cBool) (qrd (vC cBool) (qrf (vC (cInt .u8))))))) (qrf (qv4 (bRow qax)))))))
def qwy:=sLS [3,8,11,12,13,14,15,123,124,125] (qrd (vPtr 0 0) (qrd (vRow 1) (qrd (vRow 2) (qrd z3l (qrd z3l (qrd (vPtr 3 0) (qrd z3l (qrd z3t z3s)))))))) z3o [false,false,false,false,false] [] (by decide) (fun _=>rfl)
def qwx:=sLS [3,8,11,12,13,14,15,123,124,125,143] (qrd (vPtr 0 0) (qrd (vRow 1) (qrd (vRow 2) (qrd z3l (qrd z3l (qrd (vPtr 3 0) (qrd z3l (qrd z3t (qrd z3l z3n))))))))) z3o [false,false,false,false,false] [] (by decide) (fun _=>rfl)
def qww:=oAt 9 qwx
def qwt (can out:Nat) (j i from_:Int) (t123:L192) (t124 t125:Int) (b0:BA) (b1:(List (List Bool))) (b1_1 b1_2:Nat) (b2:LB) (b3 b3_1:Bool) (b3_2:Int) (b4:(List Bool)):=lS Tryz.prog lv X0 155 166 (qnb (cdF Tryz.f155) 24) qwy qww (((),can,out,j,i,(),from_,t123,t124,t125),(b0,(b1,b1_1,b1_2),b2,(b3,b3_1,b3_2),b4))
abbrev z15 (i:Int) (b1:(List (List Bool))):=(List.getD (EC.encL qb4 b1) (Int.toNat (wI i)) [])
def qwz (can out:Nat) (j i from_:Int) (t123:L192) (t124 t125:Int) (b0:BA) (b1:(List (List Bool))) (b1_1 b1_2:Nat) (b2:LB) (b3 b3_1:Bool) (b3_2:Int) (b4:(List Bool)):Oq ((Unit×Nat×Nat×Int×Int×Unit×Int×L192×Int×Int×Bool)×(BA×((List (List Bool))×Nat×Nat)×LB×(Bool×Bool×Int)×(List Bool))) :=
 (brE (b3_1==true)
 (gdE ((p0 (wI i))&&(decide ((wI i)<((can:Nat):Int))))<|
 (gdE (decide ((Int.toNat (wI i))<(lN qb4 b1)))<|
 (brE ((Int.toNat (wI i))==b1_1)
 (gdE ((p0 j)&&(decide (j<((b1_2:Nat):Int))))<|
 (gdE ((decide ((Int.toNat j)<(lN qax b4)))&&((List.length (List.getD (EC.encL qax b4) (Int.toNat j) []))==1))<|
 (gdE (isP [K1.bool] 0 (List.getD (EC.encL qax b4) (Int.toNat j) []))<|
 (brE (!(q7q (List.getD (List.getD (EC.encL qax b4) (Int.toNat j) []) 0 C.ne)))
 (gL qav t123<|
 (gL qb4 b1<|
 (gL qb5 b2<|
 (gL qax b4<|
 (qwt can out (wI j) i from_ (dL qav t123) t124 t125 b0 (dL qb4 b1) b1_1 b1_2 (dL qb5 b2) b3 b3_1 b3_2 (dL qax b4))))))
 (gL qav t123<|
 (gL qb4 b1<|
 (gL qb5 b2<|
 (gL qax b4<|
 (some (((),(can,(out,(j,(i,((),(from_,((dL qav t123),(t124,(t125,false)))))))))),(b0,(((dL qb4 b1),(b1_1,b1_2)),((dL qb5 b2),((b3,(b3_1,b3_2)),(dL qax b4)))))))))))))))
 (gdE ((List.length (z15 i b1))==1)<|
 (gdE (isP [K1.sl] 0 (z15 i b1))<|
 (gdE (p0 j)<|
 (gdE ((decide ((Int.toNat j)<(List.length (slOf (List.getD (z15 i b1) 0 C.ne)))))&&(isE [K1.bool] 0 (List.getD (slOf (List.getD (z15 i b1) 0 C.ne)) (Int.toNat j) [])))<|
 (brE (!(q7q (List.getD (List.getD (slOf (List.getD (z15 i b1) 0 C.ne)) (Int.toNat j) []) 0 C.ne)))
 (gL qav t123<|
 (gL qb4 b1<|
 (gL qb5 b2<|
 (gL qax b4<|
 (qwt can out (wI j) i from_ (dL qav t123) t124 t125 b0 (dL qb4 b1) b1_1 b1_2 (dL qb5 b2) b3 b3_1 b3_2 (dL qax b4))))))
 (gL qav t123<|
 (gL qb4 b1<|
 (gL qb5 b2<|
 (gL qax b4<|
 (some (((),(can,(out,(j,(i,((),(from_,((dL qav t123),(t124,(t125,false)))))))))),(b0,(((dL qb4 b1),(b1_1,b1_2)),((dL qb5 b2),((b3,(b3_1,b3_2)),(dL qax b4)))))))))))))))))))
 (gL qav t123<|
 (gL qb4 b1<|
 (gL qb5 b2<|
 (gL qax b4<|
 (some (((),(can,(out,(j,(i,((),(from_,((dL qav t123),(t124,(t125,false)))))))))),(b0,(((dL qb4 b1),(b1_1,b1_2)),((dL qb5 b2),((b3,(b3_1,b3_2)),(dL qax b4))))))))))))
theorem qwv {can out j i from_ t123 t124 t125 b0 b1 b1_1 b1_2 b2 b3 b3_1 b3_2 b4 r} (h:qwz can out j i from_ t123 t124 t125 b0 b1 b1_1 b1_2 b2 b3 b3_1 b3_2 b4=some r):qwt can out j i from_ t123 t124 t125 b0 b1 b1_1 b1_2 b2 b3 b3_1 b3_2 b4=some r :=
 qrh (es:=q1iq) (hs:=[]) [] (by kernel_rfl) trivial trivial (by kernel_rfl) h
def qwu:=qs5 Tryz.prog lv X0 24 (qnb (cdF Tryz.f155) 24) qwy qww (fun x=>qwt x.1.2.1 x.1.2.2.1 x.1.2.2.2.1 x.1.2.2.2.2.1 x.1.2.2.2.2.2.2.1 x.1.2.2.2.2.2.2.2.1 x.1.2.2.2.2.2.2.2.2.1 x.1.2.2.2.2.2.2.2.2.2 x.2.1 x.2.2.1.1 x.2.2.1.2.1 x.2.2.1.2.2 x.2.2.2.1 x.2.2.2.2.1.1 x.2.2.2.2.1.2.1 x.2.2.2.2.1.2.2 x.2.2.2.2.2) (fun _ _ h=>qrg h)
abbrev z3p:=(qrd (qv4 (bBox (qrf (vC cStr)))) (qrd (qv4 (bTab qb4 (vRow 3))) (qrd (qv4 (bRow qb5)) (qrf (qv4 (bRow qax))))))
def qwr:=sLS [3,8,11,12,123,124,125] (qrd (vPtr 0 0) (qrd (vRow 1) (qrd (vRow 2) (qrd z3l (qrd z3t z3s))))) z3p [false,false,false,false] [] (by decide) (fun _=>rfl)
def qwq:=sLS [3,8,11,12,123,124,125,126] (qrd (vPtr 0 0) (qrd (vRow 1) (qrd (vRow 2) (qrd z3l (qrd z3t (qrd z3l z3n)))))) z3p [false,false,false,false] [] (by decide) (fun _=>rfl)
def qwp:=oAt 7 qwq
def qwm (can out:Nat) (j:Int) (t123:L192) (t124 t125:Int) (b0:BA) (b1:(List (List Bool))) (b1_1 b1_2:Nat) (b2:LB) (b3:(List Bool)):=lS Tryz.prog lv X0 155 166 (qnb (cdF Tryz.f155) 21) qwr qwp (((),can,out,j,t123,t124,t125),(b0,(b1,b1_1,b1_2),b2,b3))
def qws (can out:Nat) (j:Int) (t123:L192) (t124 t125:Int) (b0:BA) (b1:(List (List Bool))) (b1_1 b1_2:Nat) (b2:LB) (b3:(List Bool)):Oq ((Unit×Nat×Nat×Int×L192×Int×Int×Bool)×(BA×((List (List Bool))×Nat×Nat)×LB×(List Bool))) :=
 (brE (decide (t125<t124))
 (gdE (p0 t125)<|
 (gdE (eC qav t123 t125 [K1.bool,K1.bool,(K1.int Go.IntKind.u8)])<|
 (gL qav t123<|
 (gL qb4 b1<|
 (gL qb5 b2<|
 (gL qax b3<|
 ((qwt can out j t125 j (dL qav t123) t124 t125 b0 (dL qb4 b1) b1_1 b1_2 (dL qb5 b2) (q7q (List.getD (List.getD (EC.encL qav t123) (Int.toNat t125) []) 0 C.ne)) (q7q (List.getD (List.getD (EC.encL qav t123) (Int.toNat t125) []) 1 C.ne)) (qqd (List.getD (List.getD (EC.encL qav t123) (Int.toNat t125) []) 2 C.ne)) (dL qax b3)).bind fun r0 =>
 (brE (!r0.2.2.2.2.1.2.1)
 (brE (r0.2.2.2.2.1.2.1==false)
 (brE r0.2.2.2.2.1.1
 (gdE ((p0 (wI r0.1.2.2.2.1))&&(decide ((wI r0.1.2.2.2.1)≤((r0.2.1.size:Nat):Int))))<|
 (gdE ((p0 r0.1.2.2.2.2.2.2.1)&&(decide (r0.1.2.2.2.2.2.2.1≤(((Int.toNat (wI r0.1.2.2.2.1)):Nat):Int))))<|
 (gdE ((((aL [[(C.str (ByteArray.extract r0.2.1 (Int.toNat r0.1.2.2.2.2.2.2.1) (Int.toNat (wI r0.1.2.2.2.1))))]] 1)&&(aL (EC.encL qb5 r0.2.2.2.1) 1))&&(dQ (r0.1.2.2.1+(List.length [[(C.str (ByteArray.extract r0.2.1 (Int.toNat r0.1.2.2.2.2.2.2.1) (Int.toNat (wI r0.1.2.2.2.1))))]])) 16))&&(decide ((r0.1.2.2.1+(List.length [[(C.str (ByteArray.extract r0.2.1 (Int.toNat r0.1.2.2.2.2.2.2.1) (Int.toNat (wI r0.1.2.2.2.1))))]]))≤9223372036854775807)))<|
 (gL qav r0.1.2.2.2.2.2.2.2.1<|
 (gL qb4 r0.2.2.1.1<|
 (gdE (EC.isL qb5 ((EC.encL qb5 r0.2.2.2.1)++[[(C.str (ByteArray.extract r0.2.1 (Int.toNat r0.1.2.2.2.2.2.2.1) (Int.toNat (wI r0.1.2.2.2.1))))]]))<|
 (gL qax r0.2.2.2.2.2<|
 (qwm r0.1.2.1 (r0.1.2.2.1+(List.length [[(C.str (ByteArray.extract r0.2.1 (Int.toNat r0.1.2.2.2.2.2.2.1) (Int.toNat (wI r0.1.2.2.2.1))))]])) (wI r0.1.2.2.2.1) (dL qav r0.1.2.2.2.2.2.2.2.1) r0.1.2.2.2.2.2.2.2.2.1 (wI r0.1.2.2.2.2.2.2.2.2.2.1) r0.2.1 (dL qb4 r0.2.2.1.1) r0.2.2.1.2.1 r0.2.2.1.2.2 (EC.decL qb5 ((EC.encL qb5 r0.2.2.2.1)++[[(C.str (ByteArray.extract r0.2.1 (Int.toNat r0.1.2.2.2.2.2.2.1) (Int.toNat (wI r0.1.2.2.2.1))))]])) (dL qax r0.2.2.2.2.2)))))))))
 (gL qav r0.1.2.2.2.2.2.2.2.1<|
 (gL qb4 r0.2.2.1.1<|
 (gL qb5 r0.2.2.2.1<|
 (gL qax r0.2.2.2.2.2<|
 (qwm r0.1.2.1 r0.1.2.2.1 (wI r0.1.2.2.2.1) (dL qav r0.1.2.2.2.2.2.2.2.1) r0.1.2.2.2.2.2.2.2.2.1 (wI r0.1.2.2.2.2.2.2.2.2.2.1) r0.2.1 (dL qb4 r0.2.2.1.1) r0.2.2.1.2.1 r0.2.2.1.2.2 (dL qb5 r0.2.2.2.1) (dL qax r0.2.2.2.2.2)))))))
 (gdE ((p0 (wI r0.1.2.2.2.1))&&(decide ((wI r0.1.2.2.2.1)≤((r0.2.1.size:Nat):Int))))<|
 (gdE ((p0 r0.1.2.2.2.2.2.2.1)&&(decide (r0.1.2.2.2.2.2.2.1≤(((Int.toNat (wI r0.1.2.2.2.1)):Nat):Int))))<|
 (gdE ((((aL [[(C.str (ByteArray.extract r0.2.1 (Int.toNat r0.1.2.2.2.2.2.2.1) (Int.toNat (wI r0.1.2.2.2.1))))]] 1)&&(aL (EC.encL qb5 r0.2.2.2.1) 1))&&(dQ (r0.1.2.2.1+(List.length [[(C.str (ByteArray.extract r0.2.1 (Int.toNat r0.1.2.2.2.2.2.2.1) (Int.toNat (wI r0.1.2.2.2.1))))]])) 16))&&(decide ((r0.1.2.2.1+(List.length [[(C.str (ByteArray.extract r0.2.1 (Int.toNat r0.1.2.2.2.2.2.2.1) (Int.toNat (wI r0.1.2.2.2.1))))]]))≤9223372036854775807)))<|
 (gL qav r0.1.2.2.2.2.2.2.2.1<|
 (gL qb4 r0.2.2.1.1<|
 (gdE (EC.isL qb5 ((EC.encL qb5 r0.2.2.2.1)++[[(C.str (ByteArray.extract r0.2.1 (Int.toNat r0.1.2.2.2.2.2.2.1) (Int.toNat (wI r0.1.2.2.2.1))))]]))<|
 (gL qax r0.2.2.2.2.2<|
 (qwm r0.1.2.1 (r0.1.2.2.1+(List.length [[(C.str (ByteArray.extract r0.2.1 (Int.toNat r0.1.2.2.2.2.2.2.1) (Int.toNat (wI r0.1.2.2.2.1))))]])) (wI r0.1.2.2.2.1) (dL qav r0.1.2.2.2.2.2.2.2.1) r0.1.2.2.2.2.2.2.2.2.1 (wI r0.1.2.2.2.2.2.2.2.2.2.1) r0.2.1 (dL qb4 r0.2.2.1.1) r0.2.2.1.2.1 r0.2.2.1.2.2 (EC.decL qb5 ((EC.encL qb5 r0.2.2.2.1)++[[(C.str (ByteArray.extract r0.2.1 (Int.toNat r0.1.2.2.2.2.2.2.1) (Int.toNat (wI r0.1.2.2.2.1))))]])) (dL qax r0.2.2.2.2.2))))))))))
 (brE (r0.2.2.2.2.1.2.1==false)
 (brE r0.2.2.2.2.1.1
 (gdE ((p0 r0.1.2.2.2.1)&&(decide (r0.1.2.2.2.1≤((r0.2.1.size:Nat):Int))))<|
 (gdE ((p0 r0.1.2.2.2.2.2.2.1)&&(decide (r0.1.2.2.2.2.2.2.1≤(((Int.toNat r0.1.2.2.2.1):Nat):Int))))<|
 (gdE ((((aL [[(C.str (ByteArray.extract r0.2.1 (Int.toNat r0.1.2.2.2.2.2.2.1) (Int.toNat r0.1.2.2.2.1)))]] 1)&&(aL (EC.encL qb5 r0.2.2.2.1) 1))&&(dQ (r0.1.2.2.1+(List.length [[(C.str (ByteArray.extract r0.2.1 (Int.toNat r0.1.2.2.2.2.2.2.1) (Int.toNat r0.1.2.2.2.1)))]])) 16))&&(decide ((r0.1.2.2.1+(List.length [[(C.str (ByteArray.extract r0.2.1 (Int.toNat r0.1.2.2.2.2.2.2.1) (Int.toNat r0.1.2.2.2.1)))]]))≤9223372036854775807)))<|
 (gL qav r0.1.2.2.2.2.2.2.2.1<|
 (gL qb4 r0.2.2.1.1<|
 (gdE (EC.isL qb5 ((EC.encL qb5 r0.2.2.2.1)++[[(C.str (ByteArray.extract r0.2.1 (Int.toNat r0.1.2.2.2.2.2.2.1) (Int.toNat r0.1.2.2.2.1)))]]))<|
 (gL qax r0.2.2.2.2.2<|
 (qwm r0.1.2.1 (r0.1.2.2.1+(List.length [[(C.str (ByteArray.extract r0.2.1 (Int.toNat r0.1.2.2.2.2.2.2.1) (Int.toNat r0.1.2.2.2.1)))]])) r0.1.2.2.2.1 (dL qav r0.1.2.2.2.2.2.2.2.1) r0.1.2.2.2.2.2.2.2.2.1 (wI r0.1.2.2.2.2.2.2.2.2.2.1) r0.2.1 (dL qb4 r0.2.2.1.1) r0.2.2.1.2.1 r0.2.2.1.2.2 (EC.decL qb5 ((EC.encL qb5 r0.2.2.2.1)++[[(C.str (ByteArray.extract r0.2.1 (Int.toNat r0.1.2.2.2.2.2.2.1) (Int.toNat r0.1.2.2.2.1)))]])) (dL qax r0.2.2.2.2.2)))))))))
 (gL qav r0.1.2.2.2.2.2.2.2.1<|
 (gL qb4 r0.2.2.1.1<|
 (gL qb5 r0.2.2.2.1<|
 (gL qax r0.2.2.2.2.2<|
 (qwm r0.1.2.1 r0.1.2.2.1 r0.1.2.2.2.1 (dL qav r0.1.2.2.2.2.2.2.2.1) r0.1.2.2.2.2.2.2.2.2.1 (wI r0.1.2.2.2.2.2.2.2.2.2.1) r0.2.1 (dL qb4 r0.2.2.1.1) r0.2.2.1.2.1 r0.2.2.1.2.2 (dL qb5 r0.2.2.2.1) (dL qax r0.2.2.2.2.2)))))))
 (gdE ((p0 r0.1.2.2.2.1)&&(decide (r0.1.2.2.2.1≤((r0.2.1.size:Nat):Int))))<|
 (gdE ((p0 r0.1.2.2.2.2.2.2.1)&&(decide (r0.1.2.2.2.2.2.2.1≤(((Int.toNat r0.1.2.2.2.1):Nat):Int))))<|
 (gdE ((((aL [[(C.str (ByteArray.extract r0.2.1 (Int.toNat r0.1.2.2.2.2.2.2.1) (Int.toNat r0.1.2.2.2.1)))]] 1)&&(aL (EC.encL qb5 r0.2.2.2.1) 1))&&(dQ (r0.1.2.2.1+(List.length [[(C.str (ByteArray.extract r0.2.1 (Int.toNat r0.1.2.2.2.2.2.2.1) (Int.toNat r0.1.2.2.2.1)))]])) 16))&&(decide ((r0.1.2.2.1+(List.length [[(C.str (ByteArray.extract r0.2.1 (Int.toNat r0.1.2.2.2.2.2.2.1) (Int.toNat r0.1.2.2.2.1)))]]))≤9223372036854775807)))<|
 (gL qav r0.1.2.2.2.2.2.2.2.1<|
 (gL qb4 r0.2.2.1.1<|
 (gdE (EC.isL qb5 ((EC.encL qb5 r0.2.2.2.1)++[[(C.str (ByteArray.extract r0.2.1 (Int.toNat r0.1.2.2.2.2.2.2.1) (Int.toNat r0.1.2.2.2.1)))]]))<|
 (gL qax r0.2.2.2.2.2<|
 (qwm r0.1.2.1 (r0.1.2.2.1+(List.length [[(C.str (ByteArray.extract r0.2.1 (Int.toNat r0.1.2.2.2.2.2.2.1) (Int.toNat r0.1.2.2.2.1)))]])) r0.1.2.2.2.1 (dL qav r0.1.2.2.2.2.2.2.2.1) r0.1.2.2.2.2.2.2.2.2.1 (wI r0.1.2.2.2.2.2.2.2.2.2.1) r0.2.1 (dL qb4 r0.2.2.1.1) r0.2.2.1.2.1 r0.2.2.1.2.2 (EC.decL qb5 ((EC.encL qb5 r0.2.2.2.1)++[[(C.str (ByteArray.extract r0.2.1 (Int.toNat r0.1.2.2.2.2.2.2.1) (Int.toNat r0.1.2.2.2.1)))]])) (dL qax r0.2.2.2.2.2))))))))))))))))))
 (gL qav t123<|
 (gL qb4 b1<|
 (gL qb5 b2<|
 (gL qax b3<|
 (some (((),(can,(out,(j,((dL qav t123),(t124,(t125,false))))))),(b0,(((dL qb4 b1),(b1_1,b1_2)),((dL qb5 b2),(dL qax b3)))))))))))
theorem qwo {can out j t123 t124 t125 b0 b1 b1_1 b1_2 b2 b3 r} (h:qws can out j t123 t124 t125 b0 b1 b1_1 b1_2 b2 b3=some r):qwm can out j t123 t124 t125 b0 b1 b1_1 b1_2 b2 b3=some r :=
 qrh (es:=q1iq) (hs:=[]) [qwu] (by kernel_rfl) ⟨⟨_,rfl,rfl⟩,trivial⟩ trivial (by kernel_rfl) h
def qwn:=qs5 Tryz.prog lv X0 21 (qnb (cdF Tryz.f155) 21) qwr qwp (fun x=>qwm x.1.2.1 x.1.2.2.1 x.1.2.2.2.1 x.1.2.2.2.2.1 x.1.2.2.2.2.2.1 x.1.2.2.2.2.2.2 x.2.1 x.2.2.1.1 x.2.2.1.2.1 x.2.2.1.2.2 x.2.2.2.1 x.2.2.2.2) (fun _ _ h=>qrg h)
abbrev z3q:=(cPair (vTup (qrd (vC cBool) (qrf (vRow 0)))) (qrf (bRow qb5)))
def qwj:Cod (V×List B) ((Bool×Nat)×(List ByteArray)):=z3q
def qxe (l:L192) (text:BA):=fS Tryz.prog lv X0 155 qwi qwj (l,text)
abbrev z16 (l:L192):=(wI (lN qav l:Int))
def qxf (l:L192) (text:BA):Oq ((Bool×Nat)×LB) :=
 ((q6k text).bind fun r0 =>
 (gdE ((((decide ((z16 l)=(z16 l)))&&(p0 (z16 l)))&&(decide (((z16 l)*((24:Nat):Int))≤140737488355328)))&&(decide ((z16 l)≤9223372036854775807)))<|
 (gL qav l<|
 (gdE (EC.isL qb4 (List.replicate (Int.toNat (z16 l)) [(C.sl [])]))<|
 (Option.bind (qx0 (dL qav l) (Int.toNat (z16 l)) (lN qav l:Int) text r0 (EC.decL qb4 (List.replicate (Int.toNat (z16 l)) [(C.sl [])])) (Int.toNat (z16 l)) 0 (EC.decL qax [])) fun r1 =>
 (gdE ((decide ((0:Int)≤0))&&(decide (0<((r1.1.2.2.2.1:Nat):Int))))<|
 (gdE (decide ((Int.toNat 0)<(lN qb4 r1.2.2.2.1.1)))<|
 (brE ((Int.toNat 0)==r1.2.2.2.1.2.1)
 (gdE ((decide ((0:Int)≤0))&&(decide (0<((r1.2.2.2.1.2.2:Nat):Int))))<|
 (gdE ((decide ((Int.toNat 0)<(lN qax r1.2.2.2.2)))&&((List.length (List.getD (EC.encL qax r1.2.2.2.2) (Int.toNat 0) []))==1))<|
 (gdE (isP [K1.bool] 0 (List.getD (EC.encL qax r1.2.2.2.2) (Int.toNat 0) []))<|
 (brE (!(q7q (List.getD (List.getD (EC.encL qax r1.2.2.2.2) (Int.toNat 0) []) 0 C.ne)))
 (some ((false,0),(EC.decL qb5 [])))
 (gL qav r1.1.1<|
 (gL qb4 r1.2.2.2.1.1<|
 (gL qax r1.2.2.2.2<|
 ((qwm r1.1.2.2.2.1 0 0 (dL qav r1.1.1) (((lN qav r1.1.1):Nat):Int) 0 r1.2.1 (dL qb4 r1.2.2.2.1.1) r1.2.2.2.1.2.1 r1.2.2.2.1.2.2 (EC.decL qb5 []) (dL qax r1.2.2.2.2)).bind fun r2 =>
 (gL qb5 r2.2.2.2.1<|
 (some ((true,r2.1.2.2.1),(dL qb5 r2.2.2.2.1))))))))))))
 (gdE ((List.length (List.getD (EC.encL qb4 r1.2.2.2.1.1) (Int.toNat 0) []))==1)<|
 (gdE (isP [K1.sl] 0 (List.getD (EC.encL qb4 r1.2.2.2.1.1) (Int.toNat 0) []))<|
 (gdE ((decide ((Int.toNat 0)<(List.length (slOf (List.getD (List.getD (EC.encL qb4 r1.2.2.2.1.1) (Int.toNat 0) []) 0 C.ne)))))&&(isE [K1.bool] 0 (List.getD (slOf (List.getD (List.getD (EC.encL qb4 r1.2.2.2.1.1) (Int.toNat 0) []) 0 C.ne)) (Int.toNat 0) [])))<|
 (brE (!(q7q (List.getD (List.getD (slOf (List.getD (List.getD (EC.encL qb4 r1.2.2.2.1.1) (Int.toNat 0) []) 0 C.ne)) (Int.toNat 0) []) 0 C.ne)))
 (some ((false,0),(EC.decL qb5 [])))
 (gL qav r1.1.1<|
 (gL qb4 r1.2.2.2.1.1<|
 (gL qax r1.2.2.2.2<|
 ((qwm r1.1.2.2.2.1 0 0 (dL qav r1.1.1) (((lN qav r1.1.1):Nat):Int) 0 r1.2.1 (dL qb4 r1.2.2.2.1.1) r1.2.2.2.1.2.1 r1.2.2.2.1.2.2 (EC.decL qb5 []) (dL qax r1.2.2.2.2)).bind fun r2 =>
 (gL qb5 r2.2.2.2.1<|
 (some ((true,r2.1.2.2.1),(dL qb5 r2.2.2.2.1))))))))))))))))))))
theorem qwl {l text r} (h:qxf l text=some r):qxe l text=some r :=
 qjn (es:=q1iq) (hs:=[]) [qx1,qwn] Tryz.func155 rfl (by kernel_rfl) rfl (by kernel_rfl) (by kernel_rfl) ⟨⟨_,rfl,rfl⟩,⟨_,rfl,rfl⟩,trivial⟩ trivial (by kernel_rfl) h
def qwk:=entS Tryz.prog lv X0 155 [] qwi qwj (fun x=>qxe x.1 x.2) (fun _ _ h=>qjm h)
def q1j9:=qwk::q1iq
abbrev z3u:=(qrd (vC cStr) (qrf (vC cStr)))
def qvy:=(qrd z3l z3u)
def qvz:Cod (V×List B) ((Bool×Nat×(Int×Int))×(List ByteArray)):=(cPair (vTup (qrd (vC cBool) (qrd (vRow 0) (qrf (vAgg z3s))))) (qrf (bRow qb5)))
def qw2 (kind:Int) (pattern text:BA):=fS Tryz.prog lv X0 131 qvy qvz (kind,pattern,text)
def qw3 (kind:Int) (pattern text:BA):Oq ((Bool×Nat×(Int×Int))×LB) :=
 (brE ((decide (kind<1))==false)
 (brE (decide (kind>3))
 ((q61 4 (-2)).bind fun r0 =>
 (some ((false,(0,(r0.1,r0.2))),(EC.decL qb5 []))))
 (brE (decide ((pattern.size:Int)>200))
 ((q61 1 (-3)).bind fun r0 =>
 (some ((false,(0,(r0.1,r0.2))),(EC.decL qb5 []))))
 ((qwg pattern).bind fun r0 =>
 (brE ((kind==3)==true)
 (brE (!r0.1.2)
 ((q61 11 (IntKind.wrap .i64 ((pattern.size:Int) - 1))).bind fun r1 =>
 (some ((false,(0,(r1.1,r1.2))),(EC.decL qb5 []))))
 (brE (decide ((text.size:Int)>4000))
 ((q61 1 (-1)).bind fun r1 =>
 (some ((false,(0,(r1.1,r1.2))),(EC.decL qb5 []))))
 (brE (kind==1)
 ((q78 pattern text).bind fun r1 =>
 (Option.bind q72 fun r2 =>
 (some ((r1,(0,(r2.1,r2.2))),(EC.decL qb5 [])))))
 (brE (kind==2)
 ((q6k text).bind fun r1 =>
 ((q6k pattern).bind fun r2 =>
 ((contP r1 r2).bind fun r3 =>
 (Option.bind q72 fun r4 =>
 (some ((r3,(0,(r4.1,r4.2))),(EC.decL qb5 [])))))))
 (gL qav r0.2<|
 ((qxe (dL qav r0.2) text).bind fun r1 =>
 (Option.bind q72 fun r2 =>
 (gL qb5 r1.2<|
 (some ((r1.1.1,(r1.1.2,(r2.1,r2.2))),(dL qb5 r1.2)))))))))))
 (brE (decide ((text.size:Int)>4000))
 ((q61 1 (-1)).bind fun r1 =>
 (some ((false,(0,(r1.1,r1.2))),(EC.decL qb5 []))))
 (brE (kind==1)
 ((q78 pattern text).bind fun r1 =>
 (Option.bind q72 fun r2 =>
 (some ((r1,(0,(r2.1,r2.2))),(EC.decL qb5 [])))))
 (brE (kind==2)
 ((q6k text).bind fun r1 =>
 ((q6k pattern).bind fun r2 =>
 ((contP r1 r2).bind fun r3 =>
 (Option.bind q72 fun r4 =>
 (some ((r3,(0,(r4.1,r4.2))),(EC.decL qb5 [])))))))
 (gL qav r0.2<|
 ((qxe (dL qav r0.2) text).bind fun r1 =>
 (Option.bind q72 fun r2 =>
 (gL qb5 r1.2<|
 (some ((r1.1.1,(r1.1.2,(r2.1,r2.2))),(dL qb5 r1.2))))))))))))))
 ((q61 4 (-2)).bind fun r0 =>
 (some ((false,(0,(r0.1,r0.2))),(EC.decL qb5 [])))))
theorem qw1 {kind pattern text r} (h:qw3 kind pattern text=some r):qw2 kind pattern text=some r :=
 qjn (es:=q1j9) (hs:=[]) [] Tryz.func131 rfl (by kernel_rfl) rfl (by kernel_rfl) (by kernel_rfl) trivial trivial (by kernel_rfl) h
def qw0:=entS Tryz.prog lv X0 131 [] qvy qvz (fun x=>qw2 x.1 x.2.1 x.2.2) (fun _ _ h=>qjm h)
def q1j7:=qw0::q1j9
def q1a4:=(qrd (vC (cInt .u8)) (qrf (vC (cInt .u8))))
def q1a5:Cod (V×List B) Bool:=(cFstU (cPair (vC cBool) qre))
def q1a8 (a b:Int):=fS Tryz.prog lv X0 147 q1a4 q1a5 (a,b)
def q1aa (a b:Int):Oq Bool :=
 ((qza a).bind fun r0 =>
 ((qza b).bind fun r1 =>
 (some (r0==r1))))
theorem q1a7 {a b r} (h:q1aa a b=some r):q1a8 a b=some r :=
 qjn (es:=q1j7) (hs:=[]) [] Tryz.func147 rfl (by kernel_rfl) rfl (by kernel_rfl) (by kernel_rfl) trivial trivial (by kernel_rfl) h
def q1a6:=entS Tryz.prog lv X0 147 [] q1a4 q1a5 (fun x=>q1a8 x.1 x.2) (fun _ _ h=>qjm h)
def q1k1:=q1a6::q1j7
def q14y:=z3u
abbrev z3v:=(qv4 (bRow qax))
def q157:=sLS [0,1,5,6,7,8,9,10] (qrd (vC cStr) (qrd (vC cStr) (qrd (vRow 0) (qrd z3l (qrd (vRow 1) (qrd (vC (cInt .u8)) (qrd (vC cBool) (qrf z3l)))))))) (qrd z3v (qrf z3v)) [false,false] [] (by decide) (fun _=>rfl)
def q156:=sLS [0,1,5,6,7,8,9,10,53] (qrd (vC cStr) (qrd (vC cStr) (qrd (vRow 0) (qrd z3l (qrd (vRow 1) (qrd (vC (cInt .u8)) (qrd (vC cBool) z3n))))))) (qrd z3v (qrf z3v)) [false,false] [] (by decide) (fun _=>rfl)
def q155:=oAt 4 q156
def q152 (pattern text:BA) (on:Nat) (k:Int) (next_:Nat) (c:Int) (plain:Bool) (i:Int) (b0:(List Bool)) (b1:(List Bool)):=lS Tryz.prog lv X0 119 108 (qnb (cdF Tryz.f119) 13) q157 q155 ((pattern,text,on,k,next_,c,plain,i),(b0,b1))
abbrev z17 (i:Int) (b1:(List Bool)):=(List.getD (EC.encL qax b1) (Int.toNat i) [])
abbrev z18 (i:Int):=(Int.toNat (IntKind.wrap .i64 (i - 1)))
abbrev z19 (i:Int) (b1:(List Bool)):=((decide ((Int.toNat i)<(lN qax b1)))&&((List.length (z17 i b1))==1))
abbrev z1a (i:Int) (b1:(List Bool)):=(List.set (EC.encL qax b1) (Int.toNat i) (splice (z17 i b1) 0 [(C.bool true)]))
abbrev z1b (next_:Nat) (i:Int):=((p0 i)&&(decide (i<((next_:Nat):Int))))
abbrev z1c (i:Int):=(IntKind.wrap .i64 (i - 1))
abbrev z1d (i:Int) (b0:(List Bool)):=(List.getD (EC.encL qax b0) (z18 i) [])
def q158 (pattern text:BA) (on:Nat) (k:Int) (next_:Nat) (c:Int) (plain:Bool) (i:Int) (b0:(List Bool)) (b1:(List Bool)):Oq ((BA×BA×Nat×Int×Nat×Int×Bool×Int×Bool)×((List Bool)×(List Bool))) :=
 (brE (decide (i≤(text.size:Int)))
 (brE ((!plain)==true)
 (brE (c==42)
 (gdE ((p0 i)&&(decide (i<((on:Nat):Int))))<|
 (gdE ((decide ((Int.toNat i)<(lN qax b0)))&&((List.length (List.getD (EC.encL qax b0) (Int.toNat i) []))==1))<|
 (gdE (isP [K1.bool] 0 (List.getD (EC.encL qax b0) (Int.toNat i) []))<|
 (brE ((q7q (List.getD (List.getD (EC.encL qax b0) (Int.toNat i) []) 0 C.ne))==false)
 (brE ((decide (i>0))==true)
 (gdE ((p0 (z1c i))&&(decide ((z1c i)<((next_:Nat):Int))))<|
 (gdE ((decide ((z18 i)<(lN qax b1)))&&((List.length (List.getD (EC.encL qax b1) (z18 i) []))==1))<|
 (gdE (isP [K1.bool] 0 (List.getD (EC.encL qax b1) (z18 i) []))<|
 (gdE (z1b next_ i)<|
 (gdE (z19 i b1)<|
 (gL qax b0<|
 (gdE (EC.isL qax (List.set (EC.encL qax b1) (Int.toNat i) (splice (z17 i b1) 0 [(C.bool (q7q (List.getD (List.getD (EC.encL qax b1) (z18 i) []) 0 C.ne)))])))<|
 (q152 pattern text on k next_ c plain (wI i) (dL qax b0) (EC.decL qax (List.set (EC.encL qax b1) (Int.toNat i) (splice (z17 i b1) 0 [(C.bool (q7q (List.getD (List.getD (EC.encL qax b1) (z18 i) []) 0 C.ne)))])))))))))))
 (gdE (z1b next_ i)<|
 (gdE (z19 i b1)<|
 (gL qax b0<|
 (gdE (EC.isL qax (List.set (EC.encL qax b1) (Int.toNat i) (splice (z17 i b1) 0 [(C.bool false)])))<|
 (q152 pattern text on k next_ c plain (wI i) (dL qax b0) (EC.decL qax (List.set (EC.encL qax b1) (Int.toNat i) (splice (z17 i b1) 0 [(C.bool false)])))))))))
 (gdE (z1b next_ i)<|
 (gdE (z19 i b1)<|
 (gL qax b0<|
 (gdE (EC.isL qax (z1a i b1))<|
 (q152 pattern text on k next_ c plain (wI i) (dL qax b0) (EC.decL qax (z1a i b1)))))))))))
 (brE ((decide (i>0))==true)
 (gdE ((p0 (z1c i))&&(decide ((z1c i)<((on:Nat):Int))))<|
 (gdE ((decide ((z18 i)<(lN qax b0)))&&((List.length (z1d i b0))==1))<|
 (gdE (isP [K1.bool] 0 (z1d i b0))<|
 (brE (q7q (List.getD (z1d i b0) 0 C.ne))
 (brE ((!plain)==false)
 (gdE ((p0 (z1c i))&&(decide ((z18 i)<text.size)))<|
 (Option.bind (q1a8 c (((UInt8.toNat (Array.getD text.data (z18 i) (0:UInt8))):Nat):Int)) fun r0 =>
 (gdE (z1b next_ i)<|
 (gdE (z19 i b1)<|
 (gL qax b0<|
 (gdE (EC.isL qax (List.set (EC.encL qax b1) (Int.toNat i) (splice (z17 i b1) 0 [(C.bool r0)])))<|
 (q152 pattern text on k next_ c plain (wI i) (dL qax b0) (EC.decL qax (List.set (EC.encL qax b1) (Int.toNat i) (splice (z17 i b1) 0 [(C.bool r0)]))))))))))
 (gdE (z1b next_ i)<|
 (gdE (z19 i b1)<|
 (gL qax b0<|
 (gdE (EC.isL qax (z1a i b1))<|
 (q152 pattern text on k next_ c plain (wI i) (dL qax b0) (EC.decL qax (z1a i b1))))))))
 (gL qax b0<|
 (gL qax b1<|
 (q152 pattern text on k next_ c plain (wI i) (dL qax b0) (dL qax b1))))))))
 (gL qax b0<|
 (gL qax b1<|
 (q152 pattern text on k next_ c plain (wI i) (dL qax b0) (dL qax b1))))))
 (brE ((decide (i>0))==true)
 (gdE ((p0 (z1c i))&&(decide ((z1c i)<((on:Nat):Int))))<|
 (gdE ((decide ((z18 i)<(lN qax b0)))&&((List.length (z1d i b0))==1))<|
 (gdE (isP [K1.bool] 0 (z1d i b0))<|
 (brE (q7q (List.getD (z1d i b0) 0 C.ne))
 (brE ((!plain)==false)
 (gdE ((p0 (z1c i))&&(decide ((z18 i)<text.size)))<|
 (Option.bind (q1a8 c (((UInt8.toNat (Array.getD text.data (z18 i) (0:UInt8))):Nat):Int)) fun r0 =>
 (gdE (z1b next_ i)<|
 (gdE (z19 i b1)<|
 (gL qax b0<|
 (gdE (EC.isL qax (List.set (EC.encL qax b1) (Int.toNat i) (splice (z17 i b1) 0 [(C.bool r0)])))<|
 (q152 pattern text on k next_ c plain (wI i) (dL qax b0) (EC.decL qax (List.set (EC.encL qax b1) (Int.toNat i) (splice (z17 i b1) 0 [(C.bool r0)]))))))))))
 (gdE (z1b next_ i)<|
 (gdE (z19 i b1)<|
 (gL qax b0<|
 (gdE (EC.isL qax (z1a i b1))<|
 (q152 pattern text on k next_ c plain (wI i) (dL qax b0) (EC.decL qax (z1a i b1))))))))
 (gL qax b0<|
 (gL qax b1<|
 (q152 pattern text on k next_ c plain (wI i) (dL qax b0) (dL qax b1))))))))
 (gL qax b0<|
 (gL qax b1<|
 (q152 pattern text on k next_ c plain (wI i) (dL qax b0) (dL qax b1))))))
 (gL qax b0<|
 (gL qax b1<|
 (some ((pattern,(text,(on,(k,(next_,(c,(plain,(i,false)))))))),((dL qax b0),(dL qax b1)))))))
theorem q154 {pattern text on k next_ c plain i b0 b1 r} (h:q158 pattern text on k next_ c plain i b0 b1=some r):q152 pattern text on k next_ c plain i b0 b1=some r :=
 qrh (es:=q1k1) (hs:=[]) [] (by kernel_rfl) trivial trivial (by kernel_rfl) h
def q153:=qs5 Tryz.prog lv X0 13 (qnb (cdF Tryz.f119) 13) q157 q155 (fun x=>q152 x.1.1 x.1.2.1 x.1.2.2.1 x.1.2.2.2.1 x.1.2.2.2.2.1 x.1.2.2.2.2.2.1 x.1.2.2.2.2.2.2.1 x.1.2.2.2.2.2.2.2 x.2.1 x.2.2) (fun _ _ h=>qrg h)
def q15e:=sLS [0,1,5,6] (qrd (vC cStr) (qrd (vC cStr) (qrd (vRow 0) (qrf z3l)))) (qrf z3v) [false] [] (by decide) (fun _=>rfl)
def q15d:=sLS [0,1,5,6,20] (qrd (vC cStr) (qrd (vC cStr) (qrd (vRow 0) z3n))) (qrf z3v) [false] [] (by decide) (fun _=>rfl)
def q15c:=oAt 2 q15d
def q159 (pattern text:BA) (on:Nat) (k:Int) (b0:(List Bool)):=lS Tryz.prog lv X0 119 108 (qnb (cdF Tryz.f119) 4) q15e q15c ((pattern,text,on,k),b0)
abbrev z1e (text:BA):=(List.replicate (Int.toNat (wI (text.size:Int))) [(C.bool false)])
abbrev z1f (pattern:BA) (k:Int):=(((UInt8.toNat (Array.getD pattern.data (Int.toNat k) (0:UInt8))):Nat):Int)
def q15f (pattern text:BA) (on:Nat) (k:Int) (b0:(List Bool)):Oq ((BA×BA×Nat×Int×Bool)×(List Bool)) :=
 (brE (decide (k<(pattern.size:Int)))
 (gdE ((((decide ((wI (text.size:Int))=(wI (text.size:Int))))&&(p0 (wI (text.size:Int))))&&(decide (((wI (text.size:Int))*((1:Nat):Int))≤140737488355328)))&&(decide ((wI (text.size:Int))≤9223372036854775807)))<|
 (gdE ((p0 k)&&(decide ((Int.toNat k)<pattern.size)))<|
 (brE (((z1f pattern k) != 42)==true)
 (brE (((z1f pattern k)==92)==true)
 (brE (decide ((wI k)<(pattern.size:Int)))
 (gdE ((p0 (wI k))&&(decide ((Int.toNat (wI k))<pattern.size)))<|
 (gL qax b0<|
 (gdE (EC.isL qax (z1e text))<|
 (Option.bind (q152 pattern text on (wI k) (Int.toNat (wI (text.size:Int))) (((UInt8.toNat (Array.getD pattern.data (Int.toNat (wI k)) (0:UInt8))):Nat):Int) ((z1f pattern k) != 63) 0 (dL qax b0) (EC.decL qax (z1e text))) fun r0 =>
 (gL qax r0.2.2<|
 (q159 r0.1.1 r0.1.2.1 r0.1.2.2.2.2.1 (wI r0.1.2.2.2.1) (dL qax r0.2.2)))))))
 (gL qax b0<|
 (gdE (EC.isL qax (z1e text))<|
 (Option.bind (q152 pattern text on k (Int.toNat (wI (text.size:Int))) (z1f pattern k) ((z1f pattern k) != 63) 0 (dL qax b0) (EC.decL qax (z1e text))) fun r0 =>
 (gL qax r0.2.2<|
 (q159 r0.1.1 r0.1.2.1 r0.1.2.2.2.2.1 (wI r0.1.2.2.2.1) (dL qax r0.2.2)))))))
 (gL qax b0<|
 (gdE (EC.isL qax (z1e text))<|
 (Option.bind (q152 pattern text on k (Int.toNat (wI (text.size:Int))) (z1f pattern k) ((z1f pattern k) != 63) 0 (dL qax b0) (EC.decL qax (z1e text))) fun r0 =>
 (gL qax r0.2.2<|
 (q159 r0.1.1 r0.1.2.1 r0.1.2.2.2.2.1 (wI r0.1.2.2.2.1) (dL qax r0.2.2)))))))
 (brE (((z1f pattern k)==92)==true)
 (brE (decide ((wI k)<(pattern.size:Int)))
 (gdE ((p0 (wI k))&&(decide ((Int.toNat (wI k))<pattern.size)))<|
 (gL qax b0<|
 (gdE (EC.isL qax (z1e text))<|
 (Option.bind (q152 pattern text on (wI k) (Int.toNat (wI (text.size:Int))) (((UInt8.toNat (Array.getD pattern.data (Int.toNat (wI k)) (0:UInt8))):Nat):Int) false 0 (dL qax b0) (EC.decL qax (z1e text))) fun r0 =>
 (gL qax r0.2.2<|
 (q159 r0.1.1 r0.1.2.1 r0.1.2.2.2.2.1 (wI r0.1.2.2.2.1) (dL qax r0.2.2)))))))
 (gL qax b0<|
 (gdE (EC.isL qax (z1e text))<|
 (Option.bind (q152 pattern text on k (Int.toNat (wI (text.size:Int))) (z1f pattern k) false 0 (dL qax b0) (EC.decL qax (z1e text))) fun r0 =>
 (gL qax r0.2.2<|
 (q159 r0.1.1 r0.1.2.1 r0.1.2.2.2.2.1 (wI r0.1.2.2.2.1) (dL qax r0.2.2)))))))
 (gL qax b0<|
 (gdE (EC.isL qax (z1e text))<|
 (Option.bind (q152 pattern text on k (Int.toNat (wI (text.size:Int))) (z1f pattern k) false 0 (dL qax b0) (EC.decL qax (z1e text))) fun r0 =>
 (gL qax r0.2.2<|
 (q159 r0.1.1 r0.1.2.1 r0.1.2.2.2.2.1 (wI r0.1.2.2.2.1) (dL qax r0.2.2))))))))))
 (gL qax b0<|
 (some ((pattern,(text,(on,(k,false)))),(dL qax b0)))))
theorem q15b {pattern text on k b0 r} (h:q15f pattern text on k b0=some r):q159 pattern text on k b0=some r :=
 qrh (es:=q1k1) (hs:=[]) [q153] (by kernel_rfl) ⟨⟨_,rfl,rfl⟩,trivial⟩ trivial (by kernel_rfl) h
def q15a:=qs5 Tryz.prog lv X0 4 (qnb (cdF Tryz.f119) 4) q15e q15c (fun x=>q159 x.1.1 x.1.2.1 x.1.2.2.1 x.1.2.2.2 x.2) (fun _ _ h=>qrg h)
def q14z:Cod (V×List B) Bool:=(cFstU (cPair (vC cBool) qre))
def q15g (pattern text:BA):=fS Tryz.prog lv X0 119 q14y q14z (pattern,text)
abbrev z1g (text:BA):=(List.replicate (Int.toNat (wI (text.size:Int))) [(C.bool false)])
def q15h (pattern text:BA):Oq Bool :=
 (gdE ((((decide ((wI (text.size:Int))=(wI (text.size:Int))))&&(p0 (wI (text.size:Int))))&&(decide (((wI (text.size:Int))*((1:Nat):Int))≤140737488355328)))&&(decide ((wI (text.size:Int))≤9223372036854775807)))<|
 (gdE ((decide ((0:Int)≤0))&&(decide (0<(((Int.toNat (wI (text.size:Int))):Nat):Int))))<|
 (gdE ((decide ((Int.toNat 0)<(List.length (z1g text))))&&((List.length (List.getD (z1g text) (Int.toNat 0) []))==1))<|
 (gdE (EC.isL qax (List.set (z1g text) (Int.toNat 0) (splice (List.getD (z1g text) (Int.toNat 0) []) 0 [(C.bool true)])))<|
 (Option.bind (q159 pattern text (Int.toNat (wI (text.size:Int))) 0 (EC.decL qax (List.set (z1g text) (Int.toNat 0) (splice (List.getD (z1g text) (Int.toNat 0) []) 0 [(C.bool true)])))) fun r0 =>
 (gdE ((p0 ((r0.1.2.1.size:Nat):Int))&&(decide (((r0.1.2.1.size:Nat):Int)<((r0.1.2.2.1:Nat):Int))))<|
 (gdE ((decide ((Int.toNat ((r0.1.2.1.size:Nat):Int))<(lN qax r0.2)))&&((List.length (List.getD (EC.encL qax r0.2) (Int.toNat ((r0.1.2.1.size:Nat):Int)) []))==1))<|
 (gdE (isP [K1.bool] 0 (List.getD (EC.encL qax r0.2) (Int.toNat ((r0.1.2.1.size:Nat):Int)) []))<|
 (some (q7q (List.getD (List.getD (EC.encL qax r0.2) (Int.toNat ((r0.1.2.1.size:Nat):Int)) []) 0 C.ne)))))))))))
theorem q151 {pattern text r} (h:q15h pattern text=some r):q15g pattern text=some r :=
 qjn (es:=q1k1) (hs:=[]) [q15a] Tryz.func119 rfl (by kernel_rfl) rfl (by kernel_rfl) (by kernel_rfl) ⟨⟨_,rfl,rfl⟩,trivial⟩ trivial (by kernel_rfl) h
def q150:=entS Tryz.prog lv X0 119 [] q14y q14z (fun x=>q15g x.1 x.2) (fun _ _ h=>qjm h)
def q1js:=q150::q1k1
def q1f5:=z3u
def q1f6:Cod (V×List B) ((Bool×Nat)×(List ByteArray)):=z3q
def q1fh (pattern text:BA):=fS Tryz.prog lv X0 120 q1f5 q1f6 (pattern,text)
def q1f7:=entS Tryz.prog lv X0 120 [] q1f5 q1f6 (fun x=>q1fh x.1 x.2) (fun _ _ h=>qjm h)
def q1ke:=q1f7::q1js
def q1ff:=sLS [0,1,6] (qrd (vC cStr) (qrd (vC cStr) (qrf z3l))) qre [] [] (by decide) (fun _=>rfl)
def q1fe:=sLS [0,1,6,21] (qrd (vC cStr) (qrd (vC cStr) z3n)) qre [] [] (by decide) (fun _=>rfl)
def q1fd:=sLS [4,5] (qrd (vC cBool) (qrf (vRow 0))) (qrf (qv4 (bRow qb5))) [false] [] (by decide) (fun _=>rfl)
def q1fc:=oOr 1 q1fd (oAt 2 q1fe) (fun x=>(by decide:(2:Nat)≠1))
def q1f9 (pattern text:BA) (n:Int):=lS Tryz.prog lv X0 120 100 (qnb (cdF Tryz.f120) 5) q1ff q1fc ((pattern,text,n),())
def q1fg (pattern text:BA) (n:Int):Oq (((Bool×Nat)×LB)⊕((BA×BA×Int×Bool)×Unit)) :=
 (brE (decide (n≤(text.size:Int)))
 (gdE ((decide ((0:Int)≤1))&&(decide (1≤(pattern.size:Int))))<|
 (gdE ((p0 n)&&(decide (n≤(text.size:Int))))<|
 ((q15g (ByteArray.extract pattern (Int.toNat 1) pattern.size) (ByteArray.extract text (Int.toNat n) text.size)).bind fun r0 =>
 (brE (!r0)
 (q1f9 pattern text (wI n))
 (gdE ((decide ((0:Int)≤1))&&(decide (1≤(pattern.size:Int))))<|
 (gdE ((p0 n)&&(decide (n≤(text.size:Int))))<|
 ((q1fh (ByteArray.extract pattern (Int.toNat 1) pattern.size) (ByteArray.extract text (Int.toNat n) text.size)).bind fun r1 =>
 (gdE ((p0 n)&&(decide (n≤(text.size:Int))))<|
 (gdE ((((aL (EC.encL qb5 r1.2) 1)&&(aL [[(C.str (ByteArray.extract text 0 (Int.toNat n)))]] 1))&&(dQ (1+(lN qb5 r1.2)) 16))&&(dM (1+(lN qb5 r1.2))))<|
 (gdE (EC.isL qb5 ([[(C.str (ByteArray.extract text 0 (Int.toNat n)))]]++(EC.encL qb5 r1.2)))<|
 (some (.inl ((true,(1+(lN qb5 r1.2))),(EC.decL qb5 ([[(C.str (ByteArray.extract text 0 (Int.toNat n)))]]++(EC.encL qb5 r1.2))))))))))))))))
 (some (.inr ((pattern,(text,(n,false))),()))))
theorem q1fb {pattern text n r} (h:q1fg pattern text n=some r):q1f9 pattern text n=some r :=
 qrh (es:=q1ke) (hs:=[]) [] (by kernel_rfl) trivial trivial (by kernel_rfl) h
def q1fa:=qs5 Tryz.prog lv X0 5 (qnb (cdF Tryz.f120) 5) q1ff q1fc (fun x=>q1f9 x.1.1 x.1.2.1 x.1.2.2) (fun _ _ h=>qrg h)
abbrev z1h (pattern:BA):=(((UInt8.toNat (Array.getD pattern.data (Int.toNat 0) (0:UInt8))):Nat):Int)
abbrev z1i (pattern:BA):=((decide ((0:Int)≤0))&&(decide ((Int.toNat 0)<pattern.size)))
abbrev z1j (text:BA):=((decide ((0:Int)≤1))&&(decide (1≤(text.size:Int))))
abbrev z1k (pattern text:BA):=(q1fh (ByteArray.extract pattern (Int.toNat 1) pattern.size) (ByteArray.extract text (Int.toNat 1) text.size))
abbrev z1l (text:BA):=(((UInt8.toNat (Array.getD text.data (Int.toNat 0) (0:UInt8))):Nat):Int)
def q1fj (pattern text:BA):Oq ((Bool×Nat)×LB) :=
 (brE (pattern.toList==(ByteArray.toList ⟨#[]⟩))
 (some (((text.toList==(ByteArray.toList ⟨#[]⟩)),0),(EC.decL qb5 [])))
 (gdE (z1i pattern)<|
 (brE ((z1h pattern)==42)
 ((q1f9 pattern text 0).bind fun r0 =>
 (Sum.elim (fun r1=>(gdE (EC.isL qb5 (EC.encL qb5 r1.2))<|
 (some ((r1.1.1,r1.1.2),(dL qb5 r1.2)))))
 (fun r1=>(some ((false,0),(EC.decL qb5 [])))) r0))
 (brE (text.toList==(ByteArray.toList ⟨#[]⟩))
 (some ((false,0),(EC.decL qb5 [])))
 (gdE (z1i pattern)<|
 (brE ((z1h pattern)==63)
 (gdE ((decide ((0:Int)≤1))&&(decide (1≤(pattern.size:Int))))<|
 (gdE (z1j text)<|
 ((z1k pattern text).bind fun r0 =>
 (brE (!r0.1.1)
 (some ((false,0),(EC.decL qb5 [])))
 (gdE (z1j text)<|
 (gdE ((((aL (EC.encL qb5 r0.2) 1)&&(aL [[(C.str (ByteArray.extract text 0 (Int.toNat 1)))]] 1))&&(dQ (1+(lN qb5 r0.2)) 16))&&(dM (1+(lN qb5 r0.2))))<|
 (gdE (EC.isL qb5 ([[(C.str (ByteArray.extract text 0 (Int.toNat 1)))]]++(EC.encL qb5 r0.2)))<|
 (some ((true,(1+(lN qb5 r0.2))),(EC.decL qb5 ([[(C.str (ByteArray.extract text 0 (Int.toNat 1)))]]++(EC.encL qb5 r0.2))))))))))))
 (gdE (z1i pattern)<|
 (brE (((z1h pattern)==92)==true)
 (brE (decide ((pattern.size:Int)>1))
 (gdE ((decide ((0:Int)≤1))&&(decide ((Int.toNat 1)<pattern.size)))<|
 (gdE ((decide ((0:Int)≤0))&&(decide ((Int.toNat 0)<text.size)))<|
 ((q1a8 (((UInt8.toNat (Array.getD pattern.data (Int.toNat 1) (0:UInt8))):Nat):Int) (z1l text)).bind fun r0 =>
 (brE (!r0)
 (some ((false,0),(EC.decL qb5 [])))
 (gdE ((decide ((0:Int)≤2))&&(decide (2≤(pattern.size:Int))))<|
 (gdE (z1j text)<|
 ((q1fh (ByteArray.extract pattern (Int.toNat 2) pattern.size) (ByteArray.extract text (Int.toNat 1) text.size)).bind fun r1 =>
 (gL qb5 r1.2<|
 (some ((r1.1.1,r1.1.2),(dL qb5 r1.2)))))))))))
 (gdE (z1i pattern)<|
 (gdE ((decide ((0:Int)≤0))&&(decide ((Int.toNat 0)<text.size)))<|
 ((q1a8 (z1h pattern) (z1l text)).bind fun r0 =>
 (brE (!r0)
 (some ((false,0),(EC.decL qb5 [])))
 (gdE ((decide ((0:Int)≤1))&&(decide (1≤(pattern.size:Int))))<|
 (gdE (z1j text)<|
 ((z1k pattern text).bind fun r1 =>
 (gL qb5 r1.2<|
 (some ((r1.1.1,r1.1.2),(dL qb5 r1.2))))))))))))
 (gdE (z1i pattern)<|
 (gdE ((decide ((0:Int)≤0))&&(decide ((Int.toNat 0)<text.size)))<|
 ((q1a8 (z1h pattern) (z1l text)).bind fun r0 =>
 (brE (!r0)
 (some ((false,0),(EC.decL qb5 [])))
 (gdE ((decide ((0:Int)≤1))&&(decide (1≤(pattern.size:Int))))<|
 (gdE (z1j text)<|
 ((z1k pattern text).bind fun r1 =>
 (gL qb5 r1.2<|
 (some ((r1.1.1,r1.1.2),(dL qb5 r1.2)))))))))))))))))))
theorem q1f8 {pattern text r} (h:q1fj pattern text=some r):q1fh pattern text=some r :=
 qjn (es:=q1ke) (hs:=[]) [q1fa] Tryz.func120 rfl (by kernel_rfl) rfl (by kernel_rfl) (by kernel_rfl) ⟨⟨_,rfl,rfl⟩,trivial⟩ trivial (by kernel_rfl) h
def q11j:=(qrd z3l (qrf (vC cStr)))
def q11s:=sLS [0,1,4,5,6] (qrd z3l (qrd (vC cStr) (qrd (vPtr 0 0) z3s))) (qrf (qv4 (bBox z3s))) [false] [] (by decide) (fun _=>rfl)
def q11r:=sLS [0,1,4,5,6,25] (qrd z3l (qrd (vC cStr) (qrd (vPtr 0 0) (qrd z3l z3n)))) (qrf (qv4 (bBox z3s))) [false] [] (by decide) (fun _=>rfl)
def q11q:=oAt 2 q11r
def q11n (kind:Int) (pattern:BA) (slashes i:Int) (b0 b0_1:Int):=lS Tryz.prog lv X0 94 42 (qnb (cdF Tryz.f94) 7) q11s q11q ((kind,pattern,(),slashes,i),(b0,b0_1))
def q11t (kind:Int) (pattern:BA) (slashes i:Int) (b0 b0_1:Int):Oq ((Int×BA×Unit×Int×Int×Bool)×(Int×Int)) :=
 (brE ((decide (i≥0))==true)
 (gdE ((p0 i)&&(decide ((Int.toNat i)<pattern.size)))<|
 (brE ((((UInt8.toNat (Array.getD pattern.data (Int.toNat i) (0:UInt8))):Nat):Int)==92)
 (q11n kind pattern (wI slashes) (IntKind.wrap .i64 (i - 1)) b0 b0_1)
 (some ((kind,(pattern,((),(slashes,(i,false))))),(b0,b0_1)))))
 (some ((kind,(pattern,((),(slashes,(i,false))))),(b0,b0_1))))
theorem q11p {kind pattern slashes i b0 b0_1 r} (h:q11t kind pattern slashes i b0 b0_1=some r):q11n kind pattern slashes i b0 b0_1=some r :=
 qrh (es:=q1ke) (hs:=[]) [] (by kernel_rfl) trivial trivial (by kernel_rfl) h
def q11o:=qs5 Tryz.prog lv X0 7 (qnb (cdF Tryz.f94) 7) q11s q11q (fun x=>q11n x.1.1 x.1.2.1 x.1.2.2.2.1 x.1.2.2.2.2 x.2.1 x.2.2) (fun _ _ h=>qrg h)
def q11k:Cod (V×List B) (Int×Int):=(cFstU (cPair (vAgg z3s) qre))
def q11u (kind:Int) (pattern:BA):=fS Tryz.prog lv X0 94 q11j q11k (kind,pattern)
def q11v (kind:Int) (pattern:BA):Oq (Int×Int) :=
 ((qz4 kind 1 3).bind fun r0 =>
 (brE (!r0)
 ((qyl 4 (-2)).bind fun r1 =>
 (some (r1.1,r1.2)))
 (brE (decide ((pattern.size:Int)>200))
 ((qyl 1 (-3)).bind fun r1 =>
 (some (r1.1,r1.2)))
 ((q11n kind pattern 0 (IntKind.wrap .i64 ((pattern.size:Int) - 1)) 0 0).bind fun r1 =>
 (brE ((r1.1.1==3)==true)
 (brE ((Int.tmod r1.1.2.2.2.1 2)==1)
 ((qyl 11 (IntKind.wrap .i64 (((r1.1.2.1.size:Nat):Int) - 1))).bind fun r2 =>
 (some (r2.1,r2.2)))
 (some (0,0)))
 (some (0,0)))))))
theorem q11m {kind pattern r} (h:q11v kind pattern=some r):q11u kind pattern=some r :=
 qjn (es:=q1ke) (hs:=[]) [q11o] Tryz.func94 rfl (by kernel_rfl) rfl (by kernel_rfl) (by kernel_rfl) ⟨⟨_,rfl,rfl⟩,trivial⟩ trivial (by kernel_rfl) h
def q11l:=entS Tryz.prog lv X0 94 [] q11j q11k (fun x=>q11u x.1 x.2) (fun _ _ h=>qjm h)
def q1jm:=q11l::q1ke
def q115:=(qrd z3l z3u)
def q11f:=sLS [1,2,8] (qrd (vC cStr) (qrd (vC cStr) (qrf z3l))) qre [] [] (by decide) (fun _=>rfl)
def q11e:=sLS [1,2,8,22] (qrd (vC cStr) (qrd (vC cStr) z3n)) qre [] [] (by decide) (fun _=>rfl)
def q11d:=sLS [6,7] (qrd (vC cBool) (qrf (vRow 0))) (qrf (qv4 (bRow qb5))) [false] [] (by decide) (fun _=>rfl)
def q11c:=oOr 1 q11d (oAt 2 q11e) (fun x=>(by decide:(2:Nat)≠1))
def q119 (pattern text:BA) (i:Int):=lS Tryz.prog lv X0 95 43 (qnb (cdF Tryz.f95) 5) q11f q11c ((pattern,text,i),())
def q11g (pattern text:BA) (i:Int):Oq (((Bool×Nat)×LB)⊕((BA×BA×Int×Bool)×Unit)) :=
 (brE (decide ((IntKind.wrap .i64 (i+(pattern.size:Int)))≤(text.size:Int)))
 (gdE ((p0 (IntKind.wrap .i64 (i+(pattern.size:Int))))&&(decide ((IntKind.wrap .i64 (i+(pattern.size:Int)))≤(text.size:Int))))<|
 (gdE ((p0 i)&&(decide (i≤(((Int.toNat (IntKind.wrap .i64 (i+(pattern.size:Int)))):Nat):Int))))<|
 ((qyf (ByteArray.extract text (Int.toNat i) (Int.toNat (IntKind.wrap .i64 (i+(pattern.size:Int))))) pattern).bind fun r0 =>
 (brE r0
 (some (.inl ((true,0),(EC.decL qb5 []))))
 (q119 pattern text (wI i))))))
 (some (.inr ((pattern,(text,(i,false))),()))))
theorem q11b {pattern text i r} (h:q11g pattern text i=some r):q119 pattern text i=some r :=
 qrh (es:=q1jm) (hs:=[]) [] (by kernel_rfl) trivial trivial (by kernel_rfl) h
def q11a:=qs5 Tryz.prog lv X0 5 (qnb (cdF Tryz.f95) 5) q11f q11c (fun x=>q119 x.1.1 x.1.2.1 x.1.2.2) (fun _ _ h=>qrg h)
def q116:Cod (V×List B) ((Bool×Nat)×(List ByteArray)):=z3q
def q11h (kind:Int) (pattern text:BA):=fS Tryz.prog lv X0 95 q115 q116 (kind,pattern,text)
def q11i (kind:Int) (pattern text:BA):Oq ((Bool×Nat)×LB) :=
 (brE (kind==1)
 ((qyf pattern text).bind fun r0 =>
 (some ((r0,0),(EC.decL qb5 []))))
 (brE (kind==2)
 ((q119 pattern text 0).bind fun r0 =>
 (Sum.elim (fun r1=>(gdE (EC.isL qb5 (EC.encL qb5 r1.2))<|
 (some ((r1.1.1,r1.1.2),(dL qb5 r1.2)))))
 (fun r1=>(some ((false,0),(EC.decL qb5 [])))) r0))
 ((q15g pattern text).bind fun r0 =>
 (brE (!r0)
 (some ((false,0),(EC.decL qb5 [])))
 ((q1fh pattern text).bind fun r1 =>
 (gL qb5 r1.2<|
 (some ((r1.1.1,r1.1.2),(dL qb5 r1.2)))))))))
theorem q118 {kind pattern text r} (h:q11i kind pattern text=some r):q11h kind pattern text=some r :=
 qjn (es:=q1jm) (hs:=[]) [q11a] Tryz.func95 rfl (by kernel_rfl) rfl (by kernel_rfl) (by kernel_rfl) ⟨⟨_,rfl,rfl⟩,trivial⟩ trivial (by kernel_rfl) h
def q117:=entS Tryz.prog lv X0 95 [] q115 q116 (fun x=>q11h x.1 x.2.1 x.2.2) (fun _ _ h=>qjm h)
def q1jl:=q117::q1jm
end
end Go.Proofs.YtokahibbkdbndaaGreatDoor
