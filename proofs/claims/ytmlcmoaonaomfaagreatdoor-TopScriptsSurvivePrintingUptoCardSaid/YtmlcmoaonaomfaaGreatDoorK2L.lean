/- Functions of the program as plain functions: made by program from the machine. -/
import Derived.Test.YtmlcmoaonaomfaaGreatDoorZ14
namespace Go.Proofs.YtmlcmoaonaomfaaGreatDoor
open Go.RowKit
set_option maxRecDepth 100000
noncomputable section
structure S256 where
 one:Bool
 many:Bool
 c:Int
abbrev L256:=List S256
def qbo:EC S256 where
 enc x:=[.bool x.one,.bool x.many,.int .u8 x.c]
 dec c:=⟨q8b (c.getD 0 .ne),q8b (c.getD 1 .ne),qph (c.getD 2 .ne)⟩
 is c:=isE [.bool,.bool,.int .u8] 0 c
 enc_dec h:=qat h
 dec_enc x:=by rfl
 is_enc x:=by simp [isE,isK]
theorem qck (x:S256):qbo.enc x=[.bool x.one,.bool x.many,.int .u8 x.c]:=rfl
theorem qps (xs:List S256) (n:Nat):isE [.bool,.bool,.int .u8] 0 ((qbo.encL xs).getD n [])=decide (n<xs.length):=by
 by_cases h:n<xs.length
 ·simp only [EC.getD_lt _ _ h];simp [qck,isE,isK,h]
 ·simp only [EC.getD_ge _ _ (y7q.1 h)];simp [isE,isK,h]
theorem q4e (xs:List S256) (n:Nat):q8b (((qbo.encL xs).getD n []).getD 0 .ne)=(xs.getD n (qbo.dec [])).one:=by
 by_cases h:n<xs.length
 ·simp only [EC.getD_lt _ _ h];simp [qck,h,q8b]
 ·simp only [EC.getD_ge _ _ (y7q.1 h)];simp [y7q.1 h,qbo,qph,q8b]
theorem q4f (xs:List S256) (n:Nat):q8b (((qbo.encL xs).getD n []).getD 1 .ne)=(xs.getD n (qbo.dec [])).many:=by
 by_cases h:n<xs.length
 ·simp only [EC.getD_lt _ _ h];simp [qck,h,q8b]
 ·simp only [EC.getD_ge _ _ (y7q.1 h)];simp [y7q.1 h,qbo,qph,q8b]
theorem q4g (xs:List S256) (n:Nat):qph (((qbo.encL xs).getD n []).getD 2 .ne)=(xs.getD n (qbo.dec [])).c:=by
 by_cases h:n<xs.length
 ·simp only [EC.getD_lt _ _ h];simp [qck,h,qph]
 ·simp only [EC.getD_ge _ _ (y7q.1 h)];simp [y7q.1 h,qbo,qph,q8b]
theorem qrz (a0:Bool) (a1:Bool) (a2:Int):([.bool a0,.bool a1,.int .u8 a2]:List C)=qbo.enc (⟨a0,a1,a2⟩:S256):=rfl
theorem q47 (xs:List S256) (a0:Bool) (a1:Bool) (a2:Int):qbo.encL xs++[[.bool a0,.bool a1,.int .u8 a2]]=qbo.encL (xs++[(⟨a0,a1,a2⟩:S256)]):=by rw [qrz];simp [EC.encL]
theorem q3t (xs:List S256):(qbo.encL xs).all (λ(el:List C)=>el.length==3)=true:=by induction xs with|nil=>rfl|cons x xs ih=>first|(simp [EC.encL,qck];done)|simpa [EC.encL,qck] using ih
def qx1:=(qqt (vC cStr))
abbrev z35:=(vC (cInt .i64))
def qxb:=sLS [0,4,5] (qqr (vC cStr) (qqr (vRow 0) (qqt z35))) (qqt (qvh (bRow qbo))) [false] [] (by decide) (λ_=>rfl)
abbrev z39:=(qqr z35 (qqt (vC cBool)))
def qxa:=sLS [0,4,5,9] (qqr (vC cStr) (qqr (vRow 0) z39)) (qqt (qvh (bRow qbo))) [false] [] (by decide) (λ_=>rfl)
def qx9:=sLS [2,3] (qqr (vRow 0) (qqt (vC cBool))) (qqt (qvh (bRow qbo))) [false] [] (by decide) (λ_=>rfl)
def qx8:=oOr 1 qx9 (oAt 2 qxa) (λx=>(by decide:(2:Nat)≠1))
def qx5 (p:BA) (out:Nat) (i:Int) (b0:L256):=lS Tryz.prog lv X0 164 50 (qm6 (cdF Tryz.f164) 3) qxb qx8 ((p,out,i),b0)
abbrev zx (p:BA) (i:Int):=((UInt8.toNat (Array.getD p.data (Int.toNat i) (0:UInt8)):Nat):Int)
abbrev zy (p:BA) (i:Int):=(C.int .u8 ((UInt8.toNat (Array.getD p.data (Int.toNat (wI i)) (0:UInt8)):Nat):Int))
abbrev z10 (out:Nat):=(out+List.length [[C.bool false,C.bool true,C.int .u8 0]])
abbrev z11 (out:Nat):=(out+List.length [[C.bool true,C.bool false,C.int .u8 0]])
abbrev z12 (p:BA) (i:Int):=(List.length [[C.bool false,C.bool false,C.int .u8 (zx p i)]])
def qxc (p:BA) (out:Nat) (i:Int) (b0:L256):Oq (((Nat×Bool)×L256)⊕((BA×Nat×Int×Bool)×L256)) :=brE (decide (i<(p.size:Int))) (gdE (p0 i&&decide (Int.toNat i<p.size))<|brE (zx p i==42) (gdE (((aL [[C.bool false,C.bool true,C.int .u8 0]] 3&&aL (EC.encL qbo b0) 3)&&dQ (z10 out) 3)&&decide (z10 out<=9223372036854775807))<|gdE (EC.isL qbo (EC.encL qbo b0++[[C.bool false,C.bool true,C.int .u8 0]]))<|qx5 p (z10 out) (wI i) (EC.decL qbo (EC.encL qbo b0++[[C.bool false,C.bool true,C.int .u8 0]]))) (brE (zx p i==63) (gdE (((aL [[C.bool true,C.bool false,C.int .u8 0]] 3&&aL (EC.encL qbo b0) 3)&&dQ (z11 out) 3)&&decide (z11 out<=9223372036854775807))<|gdE (EC.isL qbo (EC.encL qbo b0++[[C.bool true,C.bool false,C.int .u8 0]]))<|qx5 p (z11 out) (wI i) (EC.decL qbo (EC.encL qbo b0++[[C.bool true,C.bool false,C.int .u8 0]]))) (brE (zx p i==92) (brE (wI i==(p.size:Int)) (some (.inl ((0,false),EC.decL qbo []))) (gdE (p0 (wI i)&&decide (Int.toNat (wI i)<p.size))<|gdE (((aL [[C.bool false,C.bool false,zy p i]] 3&&aL (EC.encL qbo b0) 3)&&dQ (out+List.length [[C.bool false,C.bool false,zy p i]]) 3)&&decide ((out+List.length [[C.bool false,C.bool false,zy p i]])<=9223372036854775807))<|gdE (EC.isL qbo (EC.encL qbo b0++[[C.bool false,C.bool false,zy p i]]))<|qx5 p (out+List.length [[C.bool false,C.bool false,zy p i]]) (wI (wI i)) (EC.decL qbo (EC.encL qbo b0++[[C.bool false,C.bool false,zy p i]])))) (gdE (p0 i&&decide (Int.toNat i<p.size))<|gdE (((aL [[C.bool false,C.bool false,C.int .u8 (zx p i)]] 3&&aL (EC.encL qbo b0) 3)&&dQ (out+z12 p i) 3)&&decide ((out+z12 p i)<=9223372036854775807))<|gdE (EC.isL qbo (EC.encL qbo b0++[[C.bool false,C.bool false,C.int .u8 (zx p i)]]))<|qx5 p (out+z12 p i) (wI i) (EC.decL qbo (EC.encL qbo b0++[[C.bool false,C.bool false,C.int .u8 (zx p i)]])))))) (gL qbo b0<|some (.inr ((p,out,i,false),dL qbo b0)))
theorem qx7:E4 qxc qx5:=λh=>lT (es:=q1gt) (hs:=qoc) [] trivial trivial h
def qx6:=lentZ 164 50 3 (qm6 (cdF Tryz.f164) 3) qxb qx8
def qx2:Cod (V×List B) ((Nat×Bool)×List S256):=(cPair (vTup (qqr (vRow 0) (qqt (vC cBool)))) (qqt (bRow qbo)))
def qxd (p:BA):=fS Tryz.prog lv X0 164 qx1 qx2 p
def qxe (p:BA):Oq ((Nat×Bool)×L256) :=(qx5 p 0 0 (EC.decL qbo [])).bind λr0=>Sum.elim (λr1=>gdE (EC.isL qbo (EC.encL qbo r1.2))<|some (r1.1,dL qbo r1.2)) (λr1=>gdE (EC.isL qbo (EC.encL qbo r1.2))<|some ((r1.1.2.1,true),dL qbo r1.2)) r0
theorem qx4 {p r} (h:qxe p=some r):qxd p=some r :=
 fT (es:=q1gt) (hs:=qoc) [qx6] Tryz.func164 ⟨⟨_,rfl,rfl⟩,trivial⟩ trivial h
def qx3:=entZ 164 [] qx1 qx2
def q1gn:=qx3::q1gt
def qik:=(qqr (vAgg (qqr (vC cBool) (qqr (vC cBool) (qqt (vC (cInt .u8)))))) (qqr z35 (qqr (vEptr (qqt cStr) 0) (qqt (vEptr (qqt cStr) 0)))))
def qil:Cod (V×List B) Bool:=(cFstU (cPair (vC cBool) qqs))
def fits_s (e_one e_many:Bool) (e_c j:Int) (c2 c3:BA):=fS Tryz.prog lv X0 193 qik qil ((e_one,e_many,e_c),j,c2,c3)
def fits_t (e_one _e_many:Bool) (e_c j:Int) (c2 c3:BA):Oq Bool :=brE (decide (j<(c2.size:Int))==true) (brE (e_one==false) ((q6y (ByteArray.mk (List.toArray [UInt8.ofNat (Int.toNat e_c)]))).bind λr0=>gdE (p0 (wI j)&&decide (wI j<=(c3.size:Int)))<|gdE (p0 j&&decide (j<=((Int.toNat (wI j):Nat):Int)))<|some (r0.toList==ByteArray.toList (ByteArray.extract c3 (Int.toNat j) (Int.toNat (wI j))))) (some true)) (some false)
theorem qim:E6 fits_t fits_s:=λh=>fT (es:=q1gn) (hs:=qoc) [] Tryz.func193 trivial trivial h
def fits_e:=entZ 193 [] qik qil
def q1g4:=fits_e::q1gn
def qbn:EC (List Bool) where
 enc x:=[.sl (qbs.encL x)]
 dec c:=qbs.decL (slOf (c.getD 0 .ne))
 is c:=isE [.sl] 0 c&&qbs.isL (slOf (c.getD 0 .ne))
 enc_dec h:=by
  simp only [x6q] at h;have h0:=qat h.1
  simp only [decE,decC] at h0;simp only [EC.encL_decL _ h.2];exact h0
 dec_enc x:=by simp [slOf]
 is_enc x:=by simp [isE,isK,slOf]
theorem qcj (x:List Bool):qbn.enc x=[.sl (qbs.encL x)]:=rfl
theorem q4d (xs:List (List Bool)) (n:Nat):slOf (((qbn.encL xs).getD n []).getD 0 .ne)=qbs.encL (xs.getD n (qbn.dec [])):=by
 by_cases h:n<xs.length
 ·simp only [EC.getD_lt _ _ h];simp [qcj,h,slOf]
 ·simp only [EC.getD_ge _ _ (y7q.1 h)];simp [y7q.1 h,qbn,slOf,EC.decL,EC.encL]
theorem qrl (xs:List (List Bool)) (n:Nat) (h:n<xs.length):((qbn.encL xs).getD n []).length=1:=by rw [EC.getD_lt _ _ h];rfl
abbrev z3c:=(vC (cSl qbo))
def qxf:=(qqr z3c (qqt (vC cStr)))
abbrev z36:=(qqr (qvh (bBox (qqt (vC cStr)))) (qqr (qvh (bBox (qqt (vC cStr)))) (qqr (qvh (bTab qbn (vRow 3))) (qqt (qvh (bRow qbs))))))
abbrev z3b:=(vFn 193 (qqr (vPtr 0 0) (qqt (vPtr 1 0))))
abbrev z3d:=(qqr z35 (qqt z35))
def qy9:=sLS [0,3,7,8,9,10] (qqr z3c (qqr (vPtr 0 0) (qqr z3b (qqr (vRow 2) z3d)))) z36 [false,false,false,false] [] (by decide) (λ_=>rfl)
def qy8:=sLS [0,3,7,8,9,10,39] (qqr z3c (qqr (vPtr 0 0) (qqr z3b (qqr (vRow 2) (qqr z35 z39))))) z36 [false,false,false,false] [] (by decide) (λ_=>rfl)
def qy7:=oAt 4 qy8
def qy4 (l:L256) (can:Nat) (i j:Int) (b0 b1:BA) (b2:List (List Bool)) (b2_1 b2_2:Nat) (b3:List Bool):=lS Tryz.prog lv X0 165 166 (qm6 (cdF Tryz.f165) 9) qy9 qy7 ((l,(),((),()),can,i,j),b0,b1,(b2,b2_1,b2_2),b3)
abbrev q1kc (i j:Int) (b2:List (List Bool)):Oq ((L256×Unit×(Unit×Unit)×Nat×Int×Int×Bool)×BA×BA×(List (List Bool)×Nat×Nat)×List Bool) :=gdE (p0 j)<|gdE (decide (Int.toNat j<List.length (slOf (List.getD (List.getD (EC.encL qbn b2) (Int.toNat i) []) 0 C.ne)))&&isE [K1.bool] 0 (List.getD (slOf (List.getD (List.getD (EC.encL qbn b2) (Int.toNat i) []) 0 C.ne)) (Int.toNat j) []))<|none
abbrev z19_t (i j:Int) (b2:List (List Bool)) (b2_2:Nat) (b3:List Bool):Oq ((L256×Unit×(Unit×Unit)×Nat×Int×Int×Bool)×BA×BA×(List (List Bool)×Nat×Nat)×List Bool) :=gdE (p0 (wI j)&&decide (wI j<((b2_2:Nat):Int)))<|gdE (decide (Int.toNat (wI j)<lN qbs b3)&&(List.length (List.getD (EC.encL qbs b3) (Int.toNat (wI j)) [])==1))<|gdE (isP [K1.bool] 0 (List.getD (EC.encL qbs b3) (Int.toNat (wI j)) []))<|q1kc i j b2
abbrev z18_t (l:L256) (can:Nat) (i j:Int) (b0 b1:BA) (b2:List (List Bool)) (b2_1 b2_2:Nat) (b3:List Bool):Oq ((L256×Unit×(Unit×Unit)×Nat×Int×Int×Bool)×BA×BA×(List (List Bool)×Nat×Nat)×List Bool) :=gdE (p0 j&&decide (j<((b2_2:Nat):Int)))<|gdE (decide (Int.toNat j<lN qbs b3)&&(List.length (List.getD (EC.encL qbs b3) (Int.toNat j) [])==1))<|gL qbo l<|gL qbn b2<|gdE (EC.isL qbs (List.set (EC.encL qbs b3) (Int.toNat j) (splice (List.getD (EC.encL qbs b3) (Int.toNat j) []) 0 [C.bool true])))<|qy4 (dL qbo l) can i (IntKind.wrap .i64 (j - 1)) b0 b1 (dL qbn b2) b2_1 b2_2 (EC.decL qbs (List.set (EC.encL qbs b3) (Int.toNat j) (splice (List.getD (EC.encL qbs b3) (Int.toNat j) []) 0 [C.bool true])))
abbrev z17_t (l:L256) (can:Nat) (i j:Int) (b0 b1:BA) (b2:List (List Bool)) (b2_1 b2_2:Nat) (b3:List Bool):Oq ((L256×Unit×(Unit×Unit)×Nat×Int×Int×Bool)×BA×BA×(List (List Bool)×Nat×Nat)×List Bool) :=gdE (p0 j&&decide (j<((b2_2:Nat):Int)))<|gdE (decide (Int.toNat j<lN qbs b3)&&(List.length (List.getD (EC.encL qbs b3) (Int.toNat j) [])==1))<|gL qbo l<|gL qbn b2<|gdE (EC.isL qbs (List.set (EC.encL qbs b3) (Int.toNat j) (splice (List.getD (EC.encL qbs b3) (Int.toNat j) []) 0 [C.bool false])))<|qy4 (dL qbo l) can i (IntKind.wrap .i64 (j - 1)) b0 b1 (dL qbn b2) b2_1 b2_2 (EC.decL qbs (List.set (EC.encL qbs b3) (Int.toNat j) (splice (List.getD (EC.encL qbs b3) (Int.toNat j) []) 0 [C.bool false])))
abbrev z16_t (can:Nat) (i j:Int) (b0:BA) (b2:List (List Bool)) (b2_1 b2_2:Nat) (b3:List Bool):Oq ((L256×Unit×(Unit×Unit)×Nat×Int×Int×Bool)×BA×BA×(List (List Bool)×Nat×Nat)×List Bool) :=brE (decide (j<(b0.size:Int))==true) (gdE (p0 i&&decide (i<((can:Nat):Int)))<|gdE (decide (Int.toNat i<lN qbn b2))<|brE (Int.toNat i==b2_1) (z19_t i j b2 b2_2 b3) (gdE (List.length (List.getD (EC.encL qbn b2) (Int.toNat i) [])==1)<|gdE (isP [K1.sl] 0 (List.getD (EC.encL qbn b2) (Int.toNat i) []))<|gdE (p0 (wI j))<|gdE (decide (Int.toNat (wI j)<List.length (slOf (List.getD (List.getD (EC.encL qbn b2) (Int.toNat i) []) 0 C.ne)))&&isE [K1.bool] 0 (List.getD (slOf (List.getD (List.getD (EC.encL qbn b2) (Int.toNat i) []) 0 C.ne)) (Int.toNat (wI j)) []))<|q1kc i j b2)) (q1kc i j b2)
abbrev z15_t (l:L256) (can:Nat) (i j:Int) (b0 b1:BA) (b2:List (List Bool)) (b2_1 b2_2:Nat) (b3:List Bool):Oq ((L256×Unit×(Unit×Unit)×Nat×Int×Int×Bool)×BA×BA×(List (List Bool)×Nat×Nat)×List Bool) :=gdE (p0 (wI j)&&decide (wI j<((b2_2:Nat):Int)))<|gdE (decide (Int.toNat (wI j)<lN qbs b3)&&(List.length (List.getD (EC.encL qbs b3) (Int.toNat (wI j)) [])==1))<|gdE (isP [K1.bool] 0 (List.getD (EC.encL qbs b3) (Int.toNat (wI j)) []))<|gdE (p0 j&&decide (j<((b2_2:Nat):Int)))<|gdE (decide (Int.toNat j<lN qbs b3)&&(List.length (List.getD (EC.encL qbs b3) (Int.toNat j) [])==1))<|gL qbo l<|gL qbn b2<|gdE (EC.isL qbs (List.set (EC.encL qbs b3) (Int.toNat j) (splice (List.getD (EC.encL qbs b3) (Int.toNat j) []) 0 [C.bool (q8b (List.getD (List.getD (EC.encL qbs b3) (Int.toNat (wI j)) []) 0 C.ne))])))<|qy4 (dL qbo l) can i (IntKind.wrap .i64 (j - 1)) b0 b1 (dL qbn b2) b2_1 b2_2 (EC.decL qbs (List.set (EC.encL qbs b3) (Int.toNat j) (splice (List.getD (EC.encL qbs b3) (Int.toNat j) []) 0 [C.bool (q8b (List.getD (List.getD (EC.encL qbs b3) (Int.toNat (wI j)) []) 0 C.ne))])))
abbrev z1a (i:Int) (b2:List (List Bool)):=(slOf (List.getD (List.getD (EC.encL qbn b2) (Int.toNat i) []) 0 C.ne))
abbrev z13_t (l:L256) (can:Nat) (i j:Int) (b0 b1:BA) (b2:List (List Bool)) (b2_1 b2_2:Nat) (b3:List Bool):Oq ((L256×Unit×(Unit×Unit)×Nat×Int×Int×Bool)×BA×BA×(List (List Bool)×Nat×Nat)×List Bool) :=brE (decide (j<(b0.size:Int))==true) (gdE (p0 i&&decide (i<((can:Nat):Int)))<|gdE (decide (Int.toNat i<lN qbn b2))<|brE (Int.toNat i==b2_1) (z15_t l can i j b0 b1 b2 b2_1 b2_2 b3) (gdE (List.length (List.getD (EC.encL qbn b2) (Int.toNat i) [])==1)<|gdE (isP [K1.sl] 0 (List.getD (EC.encL qbn b2) (Int.toNat i) []))<|gdE (p0 (wI j))<|gdE (decide (Int.toNat (wI j)<List.length (z1a i b2))&&isE [K1.bool] 0 (List.getD (z1a i b2) (Int.toNat (wI j)) []))<|gdE (p0 j&&decide (j<((b2_2:Nat):Int)))<|gdE (decide (Int.toNat j<lN qbs b3)&&(List.length (List.getD (EC.encL qbs b3) (Int.toNat j) [])==1))<|gL qbo l<|gL qbn b2<|gdE (EC.isL qbs (List.set (EC.encL qbs b3) (Int.toNat j) (splice (List.getD (EC.encL qbs b3) (Int.toNat j) []) 0 [C.bool (q8b (List.getD (List.getD (z1a i b2) (Int.toNat (wI j)) []) 0 C.ne))])))<|qy4 (dL qbo l) can i (IntKind.wrap .i64 (j - 1)) b0 b1 (dL qbn b2) b2_1 b2_2 (EC.decL qbs (List.set (EC.encL qbs b3) (Int.toNat j) (splice (List.getD (EC.encL qbs b3) (Int.toNat j) []) 0 [C.bool (q8b (List.getD (List.getD (z1a i b2) (Int.toNat (wI j)) []) 0 C.ne))]))))) (z17_t l can i j b0 b1 b2 b2_1 b2_2 b3)
abbrev z1b (i:Int) (b2:List (List Bool)):=(List.getD (EC.encL qbn b2) (Int.toNat (wI i)) [])
abbrev z1c (j:Int) (b3:List Bool):=(List.getD (EC.encL qbs b3) (Int.toNat j) [])
abbrev z1d (i:Int) (b2:List (List Bool)):=(slOf (List.getD (z1b i b2) 0 C.ne))
abbrev z1e (l:L256) (i:Int):=(List.getD (EC.encL qbo l) (Int.toNat i) [])
abbrev z1f (j:Int) (b3:List Bool):=(decide (Int.toNat j<lN qbs b3)&&(List.length (z1c j b3)==1))
abbrev z1g (i:Int) (b2:List (List Bool)):=(List.getD (EC.encL qbn b2) (Int.toNat i) [])
abbrev z1h (can:Nat) (i:Int):=(p0 (wI i)&&decide (wI i<((can:Nat):Int)))
def qya (l:L256) (can:Nat) (i j:Int) (b0 b1:BA) (b2:List (List Bool)) (b2_1 b2_2:Nat) (b3:List Bool):Oq ((L256×Unit×(Unit×Unit)×Nat×Int×Int×Bool)×BA×BA×(List (List Bool)×Nat×Nat)×List Bool) :=brE (decide (j≥0)) (brE (i==(lN qbo l:Int)) (gdE (p0 i&&decide (i<((can:Nat):Int)))<|gdE (decide (Int.toNat i<lN qbn b2))<|brE (Int.toNat i==b2_1) (gdE (p0 j&&decide (j<((b2_2:Nat):Int)))<|gdE (z1f j b3)<|gL qbo l<|gL qbn b2<|gdE (EC.isL qbs (List.set (EC.encL qbs b3) (Int.toNat j) (splice (z1c j b3) 0 [C.bool (j==(b0.size:Int))])))<|qy4 (dL qbo l) can i (IntKind.wrap .i64 (j - 1)) b0 b1 (dL qbn b2) b2_1 b2_2 (EC.decL qbs (List.set (EC.encL qbs b3) (Int.toNat j) (splice (z1c j b3) 0 [C.bool (j==(b0.size:Int))])))) (gdE (List.length (z1g i b2)==1)<|gdE (isP [K1.sl] 0 (z1g i b2))<|q1kc i j b2)) (gdE (p0 i)<|gdE (eC qbo l i [K1.bool,K1.bool,K1.int IntKind.u8])<|brE (q8b (List.getD (z1e l i) 1 C.ne)) (gdE (p0 i&&decide (i<((can:Nat):Int)))<|gdE (decide (Int.toNat i<lN qbn b2))<|brE (Int.toNat i==b2_1) (gdE (z1h can i)<|gdE (decide (Int.toNat (wI i)<lN qbn b2))<|brE (Int.toNat (wI i)==b2_1) (gdE (p0 j&&decide (j<((b2_2:Nat):Int)))<|gdE (z1f j b3)<|gdE (isP [K1.bool] 0 (z1c j b3))<|brE (q8b (List.getD (z1c j b3) 0 C.ne)==false) (z13_t l can i j b0 b1 b2 b2_1 b2_2 b3) (z18_t l can i j b0 b1 b2 b2_1 b2_2 b3)) (gdE (List.length (z1b i b2)==1)<|gdE (isP [K1.sl] 0 (z1b i b2))<|gdE (p0 j)<|gdE (decide (Int.toNat j<List.length (z1d i b2))&&isE [K1.bool] 0 (List.getD (z1d i b2) (Int.toNat j) []))<|brE (q8b (List.getD (List.getD (z1d i b2) (Int.toNat j) []) 0 C.ne)==false) (z13_t l can i j b0 b1 b2 b2_1 b2_2 b3) (z18_t l can i j b0 b1 b2 b2_1 b2_2 b3))) (gdE (List.length (z1g i b2)==1)<|gdE (isP [K1.sl] 0 (z1g i b2))<|gdE (z1h can i)<|gdE (decide (Int.toNat (wI i)<lN qbn b2))<|brE (Int.toNat (wI i)==b2_1) (gdE (p0 j&&decide (j<((b2_2:Nat):Int)))<|gdE (z1f j b3)<|gdE (isP [K1.bool] 0 (z1c j b3))<|brE (q8b (List.getD (z1c j b3) 0 C.ne)==false) (z16_t can i j b0 b2 b2_1 b2_2 b3) (q1kc i j b2)) (gdE (List.length (z1b i b2)==1)<|gdE (isP [K1.sl] 0 (z1b i b2))<|gdE (p0 j)<|gdE (decide (Int.toNat j<List.length (z1d i b2))&&isE [K1.bool] 0 (List.getD (z1d i b2) (Int.toNat j) []))<|brE (q8b (List.getD (List.getD (z1d i b2) (Int.toNat j) []) 0 C.ne)==false) (z16_t can i j b0 b2 b2_1 b2_2 b3) (q1kc i j b2)))) (gdE (p0 i&&decide (i<((can:Nat):Int)))<|gdE (decide (Int.toNat i<lN qbn b2))<|brE (Int.toNat i==b2_1) (gdE (p0 i)<|gdE (eC qbo l i [K1.bool,K1.bool,K1.int IntKind.u8])<|(fits_s (q8b (List.getD (z1e l i) 0 C.ne)) (q8b (List.getD (z1e l i) 1 C.ne)) (qph (List.getD (z1e l i) 2 C.ne)) j b0 b1).bind λr0=>brE (r0==true) (gdE (z1h can i)<|gdE (decide (Int.toNat (wI i)<lN qbn b2))<|brE (Int.toNat (wI i)==b2_1) (z15_t l can i j b0 b1 b2 b2_1 b2_2 b3) (gdE (List.length (z1b i b2)==1)<|gdE (isP [K1.sl] 0 (z1b i b2))<|gdE (p0 (wI j))<|gdE (decide (Int.toNat (wI j)<List.length (z1d i b2))&&isE [K1.bool] 0 (List.getD (z1d i b2) (Int.toNat (wI j)) []))<|gdE (p0 j&&decide (j<((b2_2:Nat):Int)))<|gdE (z1f j b3)<|gL qbo l<|gL qbn b2<|gdE (EC.isL qbs (List.set (EC.encL qbs b3) (Int.toNat j) (splice (z1c j b3) 0 [C.bool (q8b (List.getD (List.getD (z1d i b2) (Int.toNat (wI j)) []) 0 C.ne))])))<|qy4 (dL qbo l) can i (IntKind.wrap .i64 (j - 1)) b0 b1 (dL qbn b2) b2_1 b2_2 (EC.decL qbs (List.set (EC.encL qbs b3) (Int.toNat j) (splice (z1c j b3) 0 [C.bool (q8b (List.getD (List.getD (z1d i b2) (Int.toNat (wI j)) []) 0 C.ne))]))))) (z17_t l can i j b0 b1 b2 b2_1 b2_2 b3)) (gdE (List.length (z1g i b2)==1)<|gdE (isP [K1.sl] 0 (z1g i b2))<|gdE (p0 i)<|gdE (eC qbo l i [K1.bool,K1.bool,K1.int IntKind.u8])<|(fits_s (q8b (List.getD (z1e l i) 0 C.ne)) (q8b (List.getD (z1e l i) 1 C.ne)) (qph (List.getD (z1e l i) 2 C.ne)) j b0 b1).bind λr0=>brE (r0==true) (gdE (z1h can i)<|gdE (decide (Int.toNat (wI i)<lN qbn b2))<|brE (Int.toNat (wI i)==b2_1) (z19_t i j b2 b2_2 b3) (gdE (List.length (z1b i b2)==1)<|gdE (isP [K1.sl] 0 (z1b i b2))<|gdE (p0 (wI j))<|gdE (decide (Int.toNat (wI j)<List.length (z1d i b2))&&isE [K1.bool] 0 (List.getD (z1d i b2) (Int.toNat (wI j)) []))<|q1kc i j b2)) (q1kc i j b2))))) (gL qbo l<|gL qbn b2<|gL qbs b3<|some ((dL qbo l,(),((),()),can,i,j,false),b0,b1,(dL qbn b2,b2_1,b2_2),dL qbs b3))
theorem qy6:E10 qya qy4:=λh=>lT (es:=q1g4) (hs:=qoc) [] trivial trivial h
def qy5:=lentZ 165 166 9 (qm6 (cdF Tryz.f165) 9) qy9 qy7
def qy2:=sLS [0,3,7,8,9] (qqr z3c (qqr (vPtr 0 0) (qqr z3b (qqr (vRow 2) (qqt z35))))) z36 [false,false,false,false] [] (by decide) (λ_=>rfl)
def qy1:=sLS [0,3,7,8,9,26] (qqr z3c (qqr (vPtr 0 0) (qqr z3b (qqr (vRow 2) z39)))) z36 [false,false,false,false] [] (by decide) (λ_=>rfl)
def qy0:=oAt 2 qy1
def qxx (l:L256) (can:Nat) (i:Int) (b0 b1:BA) (b2:List (List Bool)) (b2_1 b2_2:Nat) (b3:List Bool):=lS Tryz.prog lv X0 165 166 (qm6 (cdF Tryz.f165) 5) qy2 qy0 ((l,(),((),()),can,i),b0,b1,(b2,b2_1,b2_2),b3)
abbrev z1i (b0:BA):=(List.replicate (Int.toNat (wI (b0.size:Int))) [C.bool false])
def qy3 (l:L256) (can:Nat) (i:Int) (b0 b1:BA) (b2:List (List Bool)) (b2_1 b2_2:Nat) (b3:List Bool):Oq ((L256×Unit×(Unit×Unit)×Nat×Int×Bool)×BA×BA×(List (List Bool)×Nat×Nat)×List Bool) :=brE (decide (i≥0)) (gdE (((decide (wI (b0.size:Int)=wI (b0.size:Int))&&p0 (wI (b0.size:Int)))&&decide ((wI (b0.size:Int)*((1:Nat):Int))<=140737488355328))&&decide (wI (b0.size:Int)<=9223372036854775807))<|gdE (p0 i&&decide (i<((can:Nat):Int)))<|gdE (decide (Int.toNat i<lN qbn b2))<|brE (decide (b2_1<lN qbn b2)) (gL qbo l<|gdE (EC.isL qbn (List.set (EC.encL qbn b2) b2_1 [C.sl (EC.encL qbs b3)]))<|gdE (EC.isL qbs (z1i b0))<|Option.bind (qy4 (dL qbo l) can i (b0.size:Int) b0 b1 (EC.decL qbn (List.set (EC.encL qbn b2) b2_1 [C.sl (EC.encL qbs b3)])) (Int.toNat i) (Int.toNat (wI (b0.size:Int))) (EC.decL qbs (z1i b0))) λr0=>gL qbo r0.1.1<|gL qbn r0.2.2.2.1.1<|gL qbs r0.2.2.2.2<|qxx (dL qbo r0.1.1) r0.1.2.2.2.1 (IntKind.wrap .i64 (r0.1.2.2.2.2.1 - 1)) r0.2.1 r0.2.2.1 (dL qbn r0.2.2.2.1.1) r0.2.2.2.1.2.1 r0.2.2.2.1.2.2 (dL qbs r0.2.2.2.2)) (gL qbo l<|gL qbn b2<|gdE (EC.isL qbs (z1i b0))<|Option.bind (qy4 (dL qbo l) can i (b0.size:Int) b0 b1 (dL qbn b2) (Int.toNat i) (Int.toNat (wI (b0.size:Int))) (EC.decL qbs (z1i b0))) λr0=>gL qbo r0.1.1<|gL qbn r0.2.2.2.1.1<|gL qbs r0.2.2.2.2<|qxx (dL qbo r0.1.1) r0.1.2.2.2.1 (IntKind.wrap .i64 (r0.1.2.2.2.2.1 - 1)) r0.2.1 r0.2.2.1 (dL qbn r0.2.2.2.1.1) r0.2.2.2.1.2.1 r0.2.2.2.1.2.2 (dL qbs r0.2.2.2.2))) (gL qbo l<|gL qbn b2<|gL qbs b3<|some ((dL qbo l,(),((),()),can,i,false),b0,b1,(dL qbn b2,b2_1,b2_2),dL qbs b3))
theorem qxz:E9 qy3 qxx:=λh=>lT (es:=q1g4) (hs:=qoc) [qy5] ⟨⟨_,rfl,rfl⟩,trivial⟩ trivial h
def qxy:=lentZ 165 166 5 (qm6 (cdF Tryz.f165) 5) qy2 qy0
abbrev z38:=(qqr (qvh (bBox (qqt (vC cStr)))) (qqr (qvh (bTab qbn (vRow 4))) (qqr (qvh (bRow qby)) (qqr (qvh (bBox (qqr (vC cBool) (qqr (vC cBool) (qqt (vC (cInt .u8))))))) (qqt (qvh (bRow qbs)))))))
def qxv:=sLS [3,8,11,12,13,14,15,123,124,125] (qqr (vPtr 0 0) (qqr (vRow 1) (qqr (vRow 2) (qqr z35 (qqr z35 (qqr (vPtr 3 0) (qqr z35 (qqr z3c z3d)))))))) z38 [false,false,false,false,false] [] (by decide) (λ_=>rfl)
def qxu:=sLS [3,8,11,12,13,14,15,123,124,125,143] (qqr (vPtr 0 0) (qqr (vRow 1) (qqr (vRow 2) (qqr z35 (qqr z35 (qqr (vPtr 3 0) (qqr z35 (qqr z3c (qqr z35 z39))))))))) z38 [false,false,false,false,false] [] (by decide) (λ_=>rfl)
def qxt:=oAt 9 qxu
def qxq (can out:Nat) (j i from_:Int) (t123:L256) (t124 t125:Int) (b0:BA) (b1:List (List Bool)) (b1_1 b1_2:Nat) (b2:LB) (b3 b3_1:Bool) (b3_2:Int) (b4:List Bool):=lS Tryz.prog lv X0 165 166 (qm6 (cdF Tryz.f165) 24) qxv qxt (((),can,out,j,i,(),from_,t123,t124,t125),b0,(b1,b1_1,b1_2),b2,(b3,b3_1,b3_2),b4)
abbrev z1j_t (can out:Nat) (j i from_:Int) (t123:L256) (t124 t125:Int) (b0:BA) (b1:List (List Bool)) (b1_1 b1_2:Nat) (b2:LB) (b3 b3_1:Bool) (b3_2:Int) (b4:List Bool):Oq ((Unit×Nat×Nat×Int×Int×Unit×Int×L256×Int×Int×Bool)×BA×(List (List Bool)×Nat×Nat)×LB×(Bool×Bool×Int)×List Bool) :=gL qbo t123<|gL qbn b1<|gL qby b2<|gL qbs b4<|some (((),can,out,j,i,(),from_,dL qbo t123,t124,t125,false),b0,(dL qbn b1,b1_1,b1_2),dL qby b2,(b3,b3_1,b3_2),dL qbs b4)
abbrev z1k (i:Int) (b1:List (List Bool)):=(List.getD (EC.encL qbn b1) (Int.toNat (wI i)) [])
def qxw (can out:Nat) (j i from_:Int) (t123:L256) (t124 t125:Int) (b0:BA) (b1:List (List Bool)) (b1_1 b1_2:Nat) (b2:LB) (b3 b3_1:Bool) (b3_2:Int) (b4:List Bool):Oq ((Unit×Nat×Nat×Int×Int×Unit×Int×L256×Int×Int×Bool)×BA×(List (List Bool)×Nat×Nat)×LB×(Bool×Bool×Int)×List Bool) :=brE (b3_1==true) (gdE (p0 (wI i)&&decide (wI i<((can:Nat):Int)))<|gdE (decide (Int.toNat (wI i)<lN qbn b1))<|brE (Int.toNat (wI i)==b1_1) (gdE (p0 j&&decide (j<((b1_2:Nat):Int)))<|gdE (decide (Int.toNat j<lN qbs b4)&&(List.length (List.getD (EC.encL qbs b4) (Int.toNat j) [])==1))<|gdE (isP [K1.bool] 0 (List.getD (EC.encL qbs b4) (Int.toNat j) []))<|brE (!(q8b (List.getD (List.getD (EC.encL qbs b4) (Int.toNat j) []) 0 C.ne))) (gL qbo t123<|gL qbn b1<|gL qby b2<|gL qbs b4<|qxq can out (wI j) i from_ (dL qbo t123) t124 t125 b0 (dL qbn b1) b1_1 b1_2 (dL qby b2) b3 b3_1 b3_2 (dL qbs b4)) (z1j_t can out j i from_ t123 t124 t125 b0 b1 b1_1 b1_2 b2 b3 b3_1 b3_2 b4)) (gdE (List.length (z1k i b1)==1)<|gdE (isP [K1.sl] 0 (z1k i b1))<|gdE (p0 j)<|gdE (decide (Int.toNat j<List.length (slOf (List.getD (z1k i b1) 0 C.ne)))&&isE [K1.bool] 0 (List.getD (slOf (List.getD (z1k i b1) 0 C.ne)) (Int.toNat j) []))<|brE (!(q8b (List.getD (List.getD (slOf (List.getD (z1k i b1) 0 C.ne)) (Int.toNat j) []) 0 C.ne))) (gL qbo t123<|gL qbn b1<|gL qby b2<|gL qbs b4<|qxq can out (wI j) i from_ (dL qbo t123) t124 t125 b0 (dL qbn b1) b1_1 b1_2 (dL qby b2) b3 b3_1 b3_2 (dL qbs b4)) (z1j_t can out j i from_ t123 t124 t125 b0 b1 b1_1 b1_2 b2 b3 b3_1 b3_2 b4))) (z1j_t can out j i from_ t123 t124 t125 b0 b1 b1_1 b1_2 b2 b3 b3_1 b3_2 b4)
theorem qxs:E17 qxw qxq:=λh=>lT (es:=q1g4) (hs:=qoc) [] trivial trivial h
def qxr:=lentZ 165 166 24 (qm6 (cdF Tryz.f165) 24) qxv qxt
abbrev z3a:=(qqr (qvh (bBox (qqt (vC cStr)))) (qqr (qvh (bTab qbn (vRow 3))) (qqr (qvh (bRow qby)) (qqt (qvh (bRow qbs))))))
def qxo:=sLS [3,8,11,12,123,124,125] (qqr (vPtr 0 0) (qqr (vRow 1) (qqr (vRow 2) (qqr z35 (qqr z3c z3d))))) z3a [false,false,false,false] [] (by decide) (λ_=>rfl)
def qxn:=sLS [3,8,11,12,123,124,125,126] (qqr (vPtr 0 0) (qqr (vRow 1) (qqr (vRow 2) (qqr z35 (qqr z3c (qqr z35 z39)))))) z3a [false,false,false,false] [] (by decide) (λ_=>rfl)
def qxm:=oAt 7 qxn
def qxj (can out:Nat) (j:Int) (t123:L256) (t124 t125:Int) (b0:BA) (b1:List (List Bool)) (b1_1 b1_2:Nat) (b2:LB) (b3:List Bool):=lS Tryz.prog lv X0 165 166 (qm6 (cdF Tryz.f165) 21) qxo qxm (((),can,out,j,t123,t124,t125),b0,(b1,b1_1,b1_2),b2,b3)
def qxp (can out:Nat) (j:Int) (t123:L256) (t124 t125:Int) (b0:BA) (b1:List (List Bool)) (b1_1 b1_2:Nat) (b2:LB) (b3:List Bool):Oq ((Unit×Nat×Nat×Int×L256×Int×Int×Bool)×BA×(List (List Bool)×Nat×Nat)×LB×List Bool) :=brE (decide (t125<t124)) (gdE (p0 t125)<|gdE (eC qbo t123 t125 [K1.bool,K1.bool,K1.int IntKind.u8])<|gL qbo t123<|gL qbn b1<|gL qby b2<|gL qbs b3<|(qxq can out j t125 j (dL qbo t123) t124 t125 b0 (dL qbn b1) b1_1 b1_2 (dL qby b2) (q8b (List.getD (List.getD (EC.encL qbo t123) (Int.toNat t125) []) 0 C.ne)) (q8b (List.getD (List.getD (EC.encL qbo t123) (Int.toNat t125) []) 1 C.ne)) (qph (List.getD (List.getD (EC.encL qbo t123) (Int.toNat t125) []) 2 C.ne)) (dL qbs b3)).bind λr0=>brE (!r0.2.2.2.2.1.2.1) (brE (r0.2.2.2.2.1.2.1==false) (brE r0.2.2.2.2.1.1 (gdE (p0 (wI r0.1.2.2.2.1)&&decide (wI r0.1.2.2.2.1<=((r0.2.1.size:Nat):Int)))<|gdE (p0 r0.1.2.2.2.2.2.2.1&&decide (r0.1.2.2.2.2.2.2.1<=((Int.toNat (wI r0.1.2.2.2.1):Nat):Int)))<|gdE (((aL [[C.str (ByteArray.extract r0.2.1 (Int.toNat r0.1.2.2.2.2.2.2.1) (Int.toNat (wI r0.1.2.2.2.1)))]] 1&&aL (EC.encL qby r0.2.2.2.1) 1)&&dQ (r0.1.2.2.1+List.length [[C.str (ByteArray.extract r0.2.1 (Int.toNat r0.1.2.2.2.2.2.2.1) (Int.toNat (wI r0.1.2.2.2.1)))]]) 16)&&decide ((r0.1.2.2.1+List.length [[C.str (ByteArray.extract r0.2.1 (Int.toNat r0.1.2.2.2.2.2.2.1) (Int.toNat (wI r0.1.2.2.2.1)))]])<=9223372036854775807))<|gL qbo r0.1.2.2.2.2.2.2.2.1<|gL qbn r0.2.2.1.1<|gdE (EC.isL qby (EC.encL qby r0.2.2.2.1++[[C.str (ByteArray.extract r0.2.1 (Int.toNat r0.1.2.2.2.2.2.2.1) (Int.toNat (wI r0.1.2.2.2.1)))]]))<|gL qbs r0.2.2.2.2.2<|qxj r0.1.2.1 (r0.1.2.2.1+List.length [[C.str (ByteArray.extract r0.2.1 (Int.toNat r0.1.2.2.2.2.2.2.1) (Int.toNat (wI r0.1.2.2.2.1)))]]) (wI r0.1.2.2.2.1) (dL qbo r0.1.2.2.2.2.2.2.2.1) r0.1.2.2.2.2.2.2.2.2.1 (wI r0.1.2.2.2.2.2.2.2.2.2.1) r0.2.1 (dL qbn r0.2.2.1.1) r0.2.2.1.2.1 r0.2.2.1.2.2 (EC.decL qby (EC.encL qby r0.2.2.2.1++[[C.str (ByteArray.extract r0.2.1 (Int.toNat r0.1.2.2.2.2.2.2.1) (Int.toNat (wI r0.1.2.2.2.1)))]])) (dL qbs r0.2.2.2.2.2)) (gL qbo r0.1.2.2.2.2.2.2.2.1<|gL qbn r0.2.2.1.1<|gL qby r0.2.2.2.1<|gL qbs r0.2.2.2.2.2<|qxj r0.1.2.1 r0.1.2.2.1 (wI r0.1.2.2.2.1) (dL qbo r0.1.2.2.2.2.2.2.2.1) r0.1.2.2.2.2.2.2.2.2.1 (wI r0.1.2.2.2.2.2.2.2.2.2.1) r0.2.1 (dL qbn r0.2.2.1.1) r0.2.2.1.2.1 r0.2.2.1.2.2 (dL qby r0.2.2.2.1) (dL qbs r0.2.2.2.2.2))) (gdE (p0 (wI r0.1.2.2.2.1)&&decide (wI r0.1.2.2.2.1<=((r0.2.1.size:Nat):Int)))<|gdE (p0 r0.1.2.2.2.2.2.2.1&&decide (r0.1.2.2.2.2.2.2.1<=((Int.toNat (wI r0.1.2.2.2.1):Nat):Int)))<|gdE (((aL [[C.str (ByteArray.extract r0.2.1 (Int.toNat r0.1.2.2.2.2.2.2.1) (Int.toNat (wI r0.1.2.2.2.1)))]] 1&&aL (EC.encL qby r0.2.2.2.1) 1)&&dQ (r0.1.2.2.1+List.length [[C.str (ByteArray.extract r0.2.1 (Int.toNat r0.1.2.2.2.2.2.2.1) (Int.toNat (wI r0.1.2.2.2.1)))]]) 16)&&decide ((r0.1.2.2.1+List.length [[C.str (ByteArray.extract r0.2.1 (Int.toNat r0.1.2.2.2.2.2.2.1) (Int.toNat (wI r0.1.2.2.2.1)))]])<=9223372036854775807))<|gL qbo r0.1.2.2.2.2.2.2.2.1<|gL qbn r0.2.2.1.1<|gdE (EC.isL qby (EC.encL qby r0.2.2.2.1++[[C.str (ByteArray.extract r0.2.1 (Int.toNat r0.1.2.2.2.2.2.2.1) (Int.toNat (wI r0.1.2.2.2.1)))]]))<|gL qbs r0.2.2.2.2.2<|qxj r0.1.2.1 (r0.1.2.2.1+List.length [[C.str (ByteArray.extract r0.2.1 (Int.toNat r0.1.2.2.2.2.2.2.1) (Int.toNat (wI r0.1.2.2.2.1)))]]) (wI r0.1.2.2.2.1) (dL qbo r0.1.2.2.2.2.2.2.2.1) r0.1.2.2.2.2.2.2.2.2.1 (wI r0.1.2.2.2.2.2.2.2.2.2.1) r0.2.1 (dL qbn r0.2.2.1.1) r0.2.2.1.2.1 r0.2.2.1.2.2 (EC.decL qby (EC.encL qby r0.2.2.2.1++[[C.str (ByteArray.extract r0.2.1 (Int.toNat r0.1.2.2.2.2.2.2.1) (Int.toNat (wI r0.1.2.2.2.1)))]])) (dL qbs r0.2.2.2.2.2))) (brE (r0.2.2.2.2.1.2.1==false) (brE r0.2.2.2.2.1.1 (gdE (p0 r0.1.2.2.2.1&&decide (r0.1.2.2.2.1<=((r0.2.1.size:Nat):Int)))<|gdE (p0 r0.1.2.2.2.2.2.2.1&&decide (r0.1.2.2.2.2.2.2.1<=((Int.toNat r0.1.2.2.2.1:Nat):Int)))<|gdE (((aL [[C.str (ByteArray.extract r0.2.1 (Int.toNat r0.1.2.2.2.2.2.2.1) (Int.toNat r0.1.2.2.2.1))]] 1&&aL (EC.encL qby r0.2.2.2.1) 1)&&dQ (r0.1.2.2.1+List.length [[C.str (ByteArray.extract r0.2.1 (Int.toNat r0.1.2.2.2.2.2.2.1) (Int.toNat r0.1.2.2.2.1))]]) 16)&&decide ((r0.1.2.2.1+List.length [[C.str (ByteArray.extract r0.2.1 (Int.toNat r0.1.2.2.2.2.2.2.1) (Int.toNat r0.1.2.2.2.1))]])<=9223372036854775807))<|gL qbo r0.1.2.2.2.2.2.2.2.1<|gL qbn r0.2.2.1.1<|gdE (EC.isL qby (EC.encL qby r0.2.2.2.1++[[C.str (ByteArray.extract r0.2.1 (Int.toNat r0.1.2.2.2.2.2.2.1) (Int.toNat r0.1.2.2.2.1))]]))<|gL qbs r0.2.2.2.2.2<|qxj r0.1.2.1 (r0.1.2.2.1+List.length [[C.str (ByteArray.extract r0.2.1 (Int.toNat r0.1.2.2.2.2.2.2.1) (Int.toNat r0.1.2.2.2.1))]]) r0.1.2.2.2.1 (dL qbo r0.1.2.2.2.2.2.2.2.1) r0.1.2.2.2.2.2.2.2.2.1 (wI r0.1.2.2.2.2.2.2.2.2.2.1) r0.2.1 (dL qbn r0.2.2.1.1) r0.2.2.1.2.1 r0.2.2.1.2.2 (EC.decL qby (EC.encL qby r0.2.2.2.1++[[C.str (ByteArray.extract r0.2.1 (Int.toNat r0.1.2.2.2.2.2.2.1) (Int.toNat r0.1.2.2.2.1))]])) (dL qbs r0.2.2.2.2.2)) (gL qbo r0.1.2.2.2.2.2.2.2.1<|gL qbn r0.2.2.1.1<|gL qby r0.2.2.2.1<|gL qbs r0.2.2.2.2.2<|qxj r0.1.2.1 r0.1.2.2.1 r0.1.2.2.2.1 (dL qbo r0.1.2.2.2.2.2.2.2.1) r0.1.2.2.2.2.2.2.2.2.1 (wI r0.1.2.2.2.2.2.2.2.2.2.1) r0.2.1 (dL qbn r0.2.2.1.1) r0.2.2.1.2.1 r0.2.2.1.2.2 (dL qby r0.2.2.2.1) (dL qbs r0.2.2.2.2.2))) (gdE (p0 r0.1.2.2.2.1&&decide (r0.1.2.2.2.1<=((r0.2.1.size:Nat):Int)))<|gdE (p0 r0.1.2.2.2.2.2.2.1&&decide (r0.1.2.2.2.2.2.2.1<=((Int.toNat r0.1.2.2.2.1:Nat):Int)))<|gdE (((aL [[C.str (ByteArray.extract r0.2.1 (Int.toNat r0.1.2.2.2.2.2.2.1) (Int.toNat r0.1.2.2.2.1))]] 1&&aL (EC.encL qby r0.2.2.2.1) 1)&&dQ (r0.1.2.2.1+List.length [[C.str (ByteArray.extract r0.2.1 (Int.toNat r0.1.2.2.2.2.2.2.1) (Int.toNat r0.1.2.2.2.1))]]) 16)&&decide ((r0.1.2.2.1+List.length [[C.str (ByteArray.extract r0.2.1 (Int.toNat r0.1.2.2.2.2.2.2.1) (Int.toNat r0.1.2.2.2.1))]])<=9223372036854775807))<|gL qbo r0.1.2.2.2.2.2.2.2.1<|gL qbn r0.2.2.1.1<|gdE (EC.isL qby (EC.encL qby r0.2.2.2.1++[[C.str (ByteArray.extract r0.2.1 (Int.toNat r0.1.2.2.2.2.2.2.1) (Int.toNat r0.1.2.2.2.1))]]))<|gL qbs r0.2.2.2.2.2<|qxj r0.1.2.1 (r0.1.2.2.1+List.length [[C.str (ByteArray.extract r0.2.1 (Int.toNat r0.1.2.2.2.2.2.2.1) (Int.toNat r0.1.2.2.2.1))]]) r0.1.2.2.2.1 (dL qbo r0.1.2.2.2.2.2.2.2.1) r0.1.2.2.2.2.2.2.2.2.1 (wI r0.1.2.2.2.2.2.2.2.2.2.1) r0.2.1 (dL qbn r0.2.2.1.1) r0.2.2.1.2.1 r0.2.2.1.2.2 (EC.decL qby (EC.encL qby r0.2.2.2.1++[[C.str (ByteArray.extract r0.2.1 (Int.toNat r0.1.2.2.2.2.2.2.1) (Int.toNat r0.1.2.2.2.1))]])) (dL qbs r0.2.2.2.2.2)))) (gL qbo t123<|gL qbn b1<|gL qby b2<|gL qbs b3<|some (((),can,out,j,dL qbo t123,t124,t125,false),b0,(dL qbn b1,b1_1,b1_2),dL qby b2,dL qbs b3))
theorem qxl:E12 qxp qxj:=λh=>lT (es:=q1g4) (hs:=qoc) [qxr] ⟨⟨_,rfl,rfl⟩,trivial⟩ trivial h
def qxk:=lentZ 165 166 21 (qm6 (cdF Tryz.f165) 21) qxo qxm
def qxg:Cod (V×List B) ((Bool×Nat)×List BA):=(cPair (vTup (qqr (vC cBool) (qqt (vRow 0)))) (qqt (bRow qby)))
def qyb (l:L256) (text:BA):=fS Tryz.prog lv X0 165 qxf qxg (l,text)
abbrev z1l (l:L256):=(wI (lN qbo l:Int))
def qyc (l:L256) (text:BA):Oq ((Bool×Nat)×LB) :=(q6y text).bind λr0=>gdE (((decide (z1l l=z1l l)&&p0 (z1l l))&&decide ((z1l l*((24:Nat):Int))<=140737488355328))&&decide (z1l l<=9223372036854775807))<|gL qbo l<|gdE (EC.isL qbn (List.replicate (Int.toNat (z1l l)) [C.sl []]))<|Option.bind (qxx (dL qbo l) (Int.toNat (z1l l)) (lN qbo l:Int) text r0 (EC.decL qbn (List.replicate (Int.toNat (z1l l)) [C.sl []])) (Int.toNat (z1l l)) 0 (EC.decL qbs [])) λr1=>gdE (decide ((0:Int)<=0)&&decide (0<((r1.1.2.2.2.1:Nat):Int)))<|gdE (decide (Int.toNat 0<lN qbn r1.2.2.2.1.1))<|brE (Int.toNat 0==r1.2.2.2.1.2.1) (gdE (decide ((0:Int)<=0)&&decide (0<((r1.2.2.2.1.2.2:Nat):Int)))<|gdE (decide (Int.toNat 0<lN qbs r1.2.2.2.2)&&(List.length (List.getD (EC.encL qbs r1.2.2.2.2) (Int.toNat 0) [])==1))<|gdE (isP [K1.bool] 0 (List.getD (EC.encL qbs r1.2.2.2.2) (Int.toNat 0) []))<|brE (!(q8b (List.getD (List.getD (EC.encL qbs r1.2.2.2.2) (Int.toNat 0) []) 0 C.ne))) (some ((false,0),EC.decL qby [])) (gL qbo r1.1.1<|gL qbn r1.2.2.2.1.1<|gL qbs r1.2.2.2.2<|(qxj r1.1.2.2.2.1 0 0 (dL qbo r1.1.1) ((lN qbo r1.1.1:Nat):Int) 0 r1.2.1 (dL qbn r1.2.2.2.1.1) r1.2.2.2.1.2.1 r1.2.2.2.1.2.2 (EC.decL qby []) (dL qbs r1.2.2.2.2)).bind λr2=>gL qby r2.2.2.2.1<|some ((true,r2.1.2.2.1),dL qby r2.2.2.2.1))) (gdE (List.length (List.getD (EC.encL qbn r1.2.2.2.1.1) (Int.toNat 0) [])==1)<|gdE (isP [K1.sl] 0 (List.getD (EC.encL qbn r1.2.2.2.1.1) (Int.toNat 0) []))<|gdE (decide (Int.toNat 0<List.length (slOf (List.getD (List.getD (EC.encL qbn r1.2.2.2.1.1) (Int.toNat 0) []) 0 C.ne)))&&isE [K1.bool] 0 (List.getD (slOf (List.getD (List.getD (EC.encL qbn r1.2.2.2.1.1) (Int.toNat 0) []) 0 C.ne)) (Int.toNat 0) []))<|brE (!(q8b (List.getD (List.getD (slOf (List.getD (List.getD (EC.encL qbn r1.2.2.2.1.1) (Int.toNat 0) []) 0 C.ne)) (Int.toNat 0) []) 0 C.ne))) (some ((false,0),EC.decL qby [])) (gL qbo r1.1.1<|gL qbn r1.2.2.2.1.1<|gL qbs r1.2.2.2.2<|(qxj r1.1.2.2.2.1 0 0 (dL qbo r1.1.1) ((lN qbo r1.1.1:Nat):Int) 0 r1.2.1 (dL qbn r1.2.2.2.1.1) r1.2.2.2.1.2.1 r1.2.2.2.1.2.2 (EC.decL qby []) (dL qbs r1.2.2.2.2)).bind λr2=>gL qby r2.2.2.2.1<|some ((true,r2.1.2.2.1),dL qby r2.2.2.2.1)))
theorem qxi {l text r} (h:qyc l text=some r):qyb l text=some r :=
 fT (es:=q1g4) (hs:=qoc) [qxy,qxk] Tryz.func165 ⟨⟨_,rfl,rfl⟩,⟨_,rfl,rfl⟩,trivial⟩ trivial h
def qxh:=entZ 165 [] qxf qxg
def q1go:=qxh::q1g4
def qwv:=(qqr z35 (qqr (vC cStr) (qqt (vC cStr))))
def qww:Cod (V×List B) ((Bool×Nat×Int×Int)×List BA):=(cPair (vTup (qqr (vC cBool) (qqr (vRow 0) (qqt (vAgg z3d))))) (qqt (bRow qby)))
def qwz (kind:Int) (pattern text:BA):=fS Tryz.prog lv X0 143 qwv qww (kind,pattern,text)
def qx0 (kind:Int) (pattern text:BA):Oq ((Bool×Nat×Int×Int)×LB) :=brE (decide (kind<1)==false) (brE (decide (kind>3)) ((q6f 4 (-2)).bind λr0=>some ((false,0,r0),EC.decL qby [])) (brE (decide ((pattern.size:Int)>200)) ((q6f 1 (-3)).bind λr0=>some ((false,0,r0),EC.decL qby [])) ((qxd pattern).bind λr0=>brE ((kind==3)==true) (brE (!r0.1.2) ((q6f 11 (IntKind.wrap .i64 ((pattern.size:Int) - 1))).bind λr1=>some ((false,0,r1),EC.decL qby [])) (brE (decide ((text.size:Int)>4000)) ((q6f 1 (-1)).bind λr1=>some ((false,0,r1),EC.decL qby [])) (brE (kind==1) ((q7m pattern text).bind λr1=>Option.bind q7g λr2=>some ((r1,0,r2),EC.decL qby [])) (brE (kind==2) ((q6y text).bind λr1=>(q6y pattern).bind λr2=>(contP r1 r2).bind λr3=>Option.bind q7g λr4=>some ((r3,0,r4),EC.decL qby [])) (gL qbo r0.2<|(qyb (dL qbo r0.2) text).bind λr1=>Option.bind q7g λr2=>gL qby r1.2<|some ((r1.1.1,r1.1.2,r2),dL qby r1.2)))))) (brE (decide ((text.size:Int)>4000)) ((q6f 1 (-1)).bind λr1=>some ((false,0,r1),EC.decL qby [])) (brE (kind==1) ((q7m pattern text).bind λr1=>Option.bind q7g λr2=>some ((r1,0,r2),EC.decL qby [])) (brE (kind==2) ((q6y text).bind λr1=>(q6y pattern).bind λr2=>(contP r1 r2).bind λr3=>Option.bind q7g λr4=>some ((r3,0,r4),EC.decL qby [])) (gL qbo r0.2<|(qyb (dL qbo r0.2) text).bind λr1=>Option.bind q7g λr2=>gL qby r1.2<|some ((r1.1.1,r1.1.2,r2),dL qby r1.2)))))))) ((q6f 4 (-2)).bind λr0=>some ((false,0,r0),EC.decL qby []))
theorem qwy:E3 qx0 qwz:=λh=>fT (es:=q1go) (hs:=qoc) [] Tryz.func143 trivial trivial h
def qwx:=entZ 143 [] qwv qww
def q1gm:=qwx::q1go
def q11x:=(qqt (vC (cSl qbr)))
def q11y:Cod (V×List B) Int:=(cFstU (cPair z35 qqs))
def q128 (s:L38):=fS Tryz.prog lv X0 91 q11x q11y s
def q11z:=entZ 91 [] q11x q11y
def q1gu:=q11z::q1gm
def q126:=sLS [3,6,7,8] (qqr z35 (qqr (vC (cSl qbr)) z3d)) qqs [] [] (by decide) (λ_=>rfl)
def q125:=sLS [3,6,7,8,9] (qqr z35 (qqr (vC (cSl qbr)) (qqr z35 z39))) qqs [] [] (by decide) (λ_=>rfl)
def q124:=oAt 2 q125
def q121 (n:Int) (t6:L38) (t7 t8:Int):=lS Tryz.prog lv X0 91 24 (qm6 (cdF Tryz.f91) 3) q126 q124 ((n,t6,t7,t8),())
def q127 (n:Int) (t6:L38) (t7 t8:Int):Oq ((Int×L38×Int×Int×Bool)×Unit) :=brE (decide (t8<t7)) (gdE (p0 t8)<|gdE (eC qbr t6 t8 [K1.int IntKind.i64,K1.int IntKind.i64,K1.sl,K1.str,K1.int IntKind.i64,K1.str,K1.int IntKind.i64,K1.sl,K1.sl,K1.int IntKind.i64,K1.str,K1.str,K1.int IntKind.i64])<|gdE (EC.isL qbr (slOf (List.getD (List.getD (EC.encL qbr t6) (Int.toNat t8) []) 7 C.ne)))<|(q128 (uL qbr (List.getD (List.getD (EC.encL qbr t6) (Int.toNat t8) []) 7 C.ne))).bind λr0=>gdE (EC.isL qbr (slOf (List.getD (List.getD (EC.encL qbr t6) (Int.toNat t8) []) 8 C.ne)))<|(q128 (uL qbr (List.getD (List.getD (EC.encL qbr t6) (Int.toNat t8) []) 8 C.ne))).bind λr1=>gL qbr t6<|q121 (IntKind.wrap .i64 (n+IntKind.wrap .i64 (IntKind.wrap .i64 (1+r0)+r1))) (dL qbr t6) t7 (wI t8)) (gL qbr t6<|some ((n,dL qbr t6,t7,t8,false),()))
theorem q123:E4 q127 q121:=λh=>lT (es:=q1gu) (hs:=qoc) [] trivial trivial h
def q122:=lentZ 91 24 3 (qm6 (cdF Tryz.f91) 3) q126 q124
def q129 (s:L38):Oq Int :=gL qbr s<|(q121 0 (dL qbr s) (lN qbr s:Int) 0).bind λr0=>some r0.1.1
theorem q120 {s r} (h:q129 s=some r):q128 s=some r :=
 fT (es:=q1gu) (hs:=qoc) [q122] Tryz.func91 ⟨⟨_,rfl,rfl⟩,trivial⟩ trivial h
structure S54 where
 Kind:Int
 Text:BA
 N:Int
abbrev L54:=List S54
def qbu:EC S54 where
 enc x:=[.int .i64 x.Kind,.str x.Text,.int .i64 x.N]
 dec c:=⟨qph (c.getD 0 .ne),q1e1 (c.getD 1 .ne),qph (c.getD 2 .ne)⟩
 is c:=isE [.int .i64,.str,.int .i64] 0 c
 enc_dec h:=qat h
 dec_enc x:=by rfl
 is_enc x:=by simp [isE,isK]
theorem enc_54 (x:S54):qbu.enc x=[.int .i64 x.Kind,.str x.Text,.int .i64 x.N]:=rfl
theorem isE_54 (xs:List S54) (n:Nat):isE [.int .i64,.str,.int .i64] 0 ((qbu.encL xs).getD n [])=decide (n<xs.length):=by
 by_cases h:n<xs.length
 ·simp only [EC.getD_lt _ _ h];simp [enc_54,isE,isK,h]
 ·simp only [EC.getD_ge _ _ (y7q.1 h)];simp [isE,isK,h]
theorem q52 (xs:List S54) (n:Nat):qph (((qbu.encL xs).getD n []).getD 0 .ne)=(xs.getD n (qbu.dec [])).Kind:=by
 by_cases h:n<xs.length
 ·simp only [EC.getD_lt _ _ h];simp [enc_54,h,qph]
 ·simp only [EC.getD_ge _ _ (y7q.1 h)];simp [y7q.1 h,qbu,q1e1,qph]
theorem q53 (xs:List S54) (n:Nat):q1e1 (((qbu.encL xs).getD n []).getD 1 .ne)=(xs.getD n (qbu.dec [])).Text:=by
 by_cases h:n<xs.length
 ·simp only [EC.getD_lt _ _ h];simp [enc_54,h,q1e1]
 ·simp only [EC.getD_ge _ _ (y7q.1 h)];simp [y7q.1 h,qbu,q1e1,qph]
theorem q54 (xs:List S54) (n:Nat):qph (((qbu.encL xs).getD n []).getD 2 .ne)=(xs.getD n (qbu.dec [])).N:=by
 by_cases h:n<xs.length
 ·simp only [EC.getD_lt _ _ h];simp [enc_54,h,qph]
 ·simp only [EC.getD_ge _ _ (y7q.1 h)];simp [y7q.1 h,qbu,q1e1,qph]
theorem lit_54 (a0:Int) (a1:BA) (a2:Int):([.int .i64 a0,.str a1,.int .i64 a2]:List C)=qbu.enc (⟨a0,a1,a2⟩:S54):=rfl
theorem q48 (xs:List S54) (a0:Int) (a1:BA) (a2:Int):qbu.encL xs++[[.int .i64 a0,.str a1,.int .i64 a2]]=qbu.encL (xs++[(⟨a0,a1,a2⟩:S54)]):=by rw [lit_54];simp [EC.encL]
theorem q3v (xs:List S54):(qbu.encL xs).all (λ(el:List C)=>el.length==3)=true:=by induction xs with|nil=>rfl|cons x xs ih=>first|(simp [EC.encL,enc_54];done)|simpa [EC.encL,enc_54] using ih
def qf2:=(qqt (vC (cSl qbu)))
def qfc:=sLS [5,6,7] (qqr (vC (cSl qbu)) z3d) qqs [] [] (by decide) (λ_=>rfl)
def qfb:=sLS [5,6,7,8] (qqr (vC (cSl qbu)) (qqr z35 z39)) qqs [] [] (by decide) (λ_=>rfl)
def qfa:=sLS [2] (qqt (vC cBool)) qqs [] [] (by decide) (λ_=>rfl)
def qf9:=oOr 1 qfa (oAt 2 qfb) (λx=>(by decide:(2:Nat)≠1))
def qf6 (t5:L54) (t6 t7:Int):=lS Tryz.prog lv X0 58 20 (qm6 (cdF Tryz.f58) 2) qfc qf9 ((t5,t6,t7),())
def qfd (t5:L54) (t6 t7:Int):Oq ((Bool×Unit)⊕((L54×Int×Int×Bool)×Unit)) :=brE (decide (t7<t6)) (gdE (p0 t7)<|gdE (eC qbu t5 t7 [K1.int IntKind.i64,K1.str,K1.int IntKind.i64])<|brE (((qph (List.getD (List.getD (EC.encL qbu t5) (Int.toNat t7) []) 0 C.ne)) != 6)==true) (brE ((qph (List.getD (List.getD (EC.encL qbu t5) (Int.toNat t7) []) 0 C.ne)) != 7) (some (.inl (true,()))) (gL qbu t5<|qf6 (dL qbu t5) t6 (wI t7))) (gL qbu t5<|qf6 (dL qbu t5) t6 (wI t7))) (gL qbu t5<|some (.inr ((dL qbu t5,t6,t7,false),())))
theorem qf8:E3 qfd qf6:=λh=>lT (es:=q1gu) (hs:=qoc) [] trivial trivial h
def qf7:=lentZ 58 20 2 (qm6 (cdF Tryz.f58) 2) qfc qf9
def qf3:Cod (V×List B) Bool:=(cFstU (cPair (vC cBool) qqs))
def qfe (l:L54):=fS Tryz.prog lv X0 58 qf2 qf3 l
def qff (l:L54):Oq Bool :=gL qbu l<|(qf6 (dL qbu l) (lN qbu l:Int) 0).bind λr0=>Sum.elim (λr1=>some r1.1) (λ_r1=>some false) r0
theorem qf5 {l r} (h:qff l=some r):qfe l=some r :=
 fT (es:=q1gu) (hs:=qoc) [qf7] Tryz.func58 ⟨⟨_,rfl,rfl⟩,trivial⟩ trivial h
def qf4:=entZ 58 [] qf2 qf3
def q1g2:=qf4::q1gu
end
end Go.Proofs.YtmlcmoaonaomfaaGreatDoor
