/- Functions of the program as plain functions: made by program from the machine. -/
import Derived.Test.YtmlcmoaonaomfaaGreatDoorH3
namespace Go.Proofs.YtmlcmoaonaomfaaGreatDoor
open Go.RowKit
set_option maxRecDepth 100000
noncomputable section
abbrev z1b:=(qpj (vC (cInt .i64)) (qpl (vC (cInt .i64))))
abbrev z1j:=(vC (cInt .i64))
def qvn:=(qpj z1j z1b)
abbrev z1e:=(cFstU (cPair (vC cBool) (qpk (ρ:=B))))
def qvo:Cod (V×List B) Bool:=z1e
def qvr (n low high:Int):=fS Tryz.prog lv X0 93 qvn qvo (n,low,high)
def qvs (n low high:Int):Oq Bool :=
 (brE ((decide (low<=n))==true)
 (some (decide (n<=high)))
 (some false))
theorem qvq {n low high r} (h:qvs n low high=some r):qvr n low high=some r :=
 qg7 (es:=q1c3) (hs:=qml) [] Tryz.func93 rfl (by kernel_rfl) rfl (by kernel_rfl) (by kernel_rfl) trivial trivial (by kernel_rfl) h
def qvp:=entS Tryz.prog lv X0 93 [] qvn qvo (λx=>qvr x.1 x.2.1 x.2.2) (λ_ _ h=>qg5 h)
def q1bw:=qvp::q1c3
def qvt:=(qpl (vC (cInt .u8)))
def qvu:Cod (V×List B) Int:=(cFstU (cPair (vC (cInt .u8)) qpk))
def qvx (c:Int):=fS Tryz.prog lv X0 59 qvt qvu c
def qvy (c:Int):Oq Int :=
 ((qvr (IntKind.wrap .i64 c) 65 90).bind λr0 =>
 (brE r0
 (some (IntKind.wrap .u8 (c+32)))
 (some c)))
theorem qvw {c r} (h:qvy c=some r):qvx c=some r :=
 qg7 (es:=q1bw) (hs:=qml) [] Tryz.func59 rfl (by kernel_rfl) rfl (by kernel_rfl) (by kernel_rfl) trivial trivial (by kernel_rfl) h
def qvv:=entS Tryz.prog lv X0 59 [] qvt qvu (λx=>qvx x) (λ_ _ h=>qg5 h)
def q1bx:=qvv::q1bw
abbrev z1i:=(qpj (vC cStr) (qpl (vC cStr)))
def qv9:=z1i
def qvj:=sLS [0,1,5] (qpj (vC cStr) (qpj (vC cStr) (qpl z1j))) qpk [] [] (by decide) (λ_=>rfl)
def qvi:=sLS [0,1,5,14] (qpj (vC cStr) (qpj (vC cStr) (qpj z1j (qpl (vC cBool))))) qpk [] [] (by decide) (λ_=>rfl)
def qvh:=sLS [4] (qpl (vC cBool)) qpk [] [] (by decide) (λ_=>rfl)
def qvg:=oOr 1 qvh (oAt 2 qvi) (λx=>(by decide:(2:Nat)≠1))
def qvd (a b:BA) (i:Int):=lS Tryz.prog lv X0 31 26 (qk8 (cdF Tryz.f31) 4) qvj qvg ((a,b,i),())
def qvk (a b:BA) (i:Int):Oq ((Bool×Unit)⊕((BA×BA×Int×Bool)×Unit)) :=
 (brE (decide (i<(a.size:Int)))
 (gdE ((p0 i)&&(decide ((Int.toNat i)<a.size)))<|
 ((qvx (((UInt8.toNat (Array.getD a.data (Int.toNat i) (0:UInt8))):Nat):Int)).bind λr0 =>
 (gdE ((p0 i)&&(decide ((Int.toNat i)<b.size)))<|
 ((qvx (((UInt8.toNat (Array.getD b.data (Int.toNat i) (0:UInt8))):Nat):Int)).bind λr1 =>
 (brE (r0 != r1)
 (some (.inl (false,())))
 (qvd a b (wI i)))))))
 (some (.inr ((a,(b,(i,false))),()))))
theorem qvf {a b i r} (h:qvk a b i=some r):qvd a b i=some r :=
 qpn (es:=q1bx) (hs:=qml) [] (by kernel_rfl) trivial trivial (by kernel_rfl) h
def qve:=qqh Tryz.prog lv X0 4 (qk8 (cdF Tryz.f31) 4) qvj qvg (λx=>qvd x.1.1 x.1.2.1 x.1.2.2) (λ_ _ h=>qpm h)
def qva:Cod (V×List B) Bool:=z1e
def qvl (a b:BA):=fS Tryz.prog lv X0 31 qv9 qva (a,b)
def qvm (a b:BA):Oq Bool :=
 (brE ((a.size:Int) != (b.size:Int))
 (some false)
 ((qvd a b 0).bind λr0 =>
 (Sum.elim (λr1=>(some r1.1))
 (λr1=>(some true)) r0)))
theorem qvc {a b r} (h:qvm a b=some r):qvl a b=some r :=
 qg7 (es:=q1bx) (hs:=qml) [qve] Tryz.func31 rfl (by kernel_rfl) rfl (by kernel_rfl) (by kernel_rfl) ⟨⟨_,rfl,rfl⟩,trivial⟩ trivial (by kernel_rfl) h
def qvb:=entS Tryz.prog lv X0 31 [] qv9 qva (λx=>qvl x.1 x.2) (λ_ _ h=>qg5 h)
def q1bv:=qvb::q1bx
def qvz:=(qpj (vAgg (qpj (vC (cSl qd0)) (qpl (vC (cSl qcy))))) (qpl (vC cStr)))
abbrev z1h:=(qpj (qu4 (bBox (qpj (vC (cSl qd0)) (qpl (vC (cSl qcy)))))) (qpl (qu4 (bRow qd2))))
def qw8:=sLS [1,2,5,6] (qpj (vC cStr) (qpj (vPtr 0 0) (qpj (vRow 1) (qpl z1j)))) z1h [false,false] [] (by decide) (λ_=>rfl)
def qw7:=sLS [1,2,5,6,11] (qpj (vC cStr) (qpj (vPtr 0 0) (qpj (vRow 1) (qpj z1j (qpl (vC cBool)))))) z1h [false,false] [] (by decide) (λ_=>rfl)
def qw6:=oAt 2 qw7
def qw3 (name:BA) (out:Nat) (i:Int) (b0:L71) (b0_1:(List Int)) (b1:LB):=lS Tryz.prog lv X0 11 32 (qk8 (cdF Tryz.f11) 3) qw8 qw6 ((name,(),out,i),((b0,b0_1),b1))
def qw9 (name:BA) (out:Nat) (i:Int) (b0:L71) (b0_1:(List Int)) (b1:LB):Oq ((BA×Unit×Nat×Int×Bool)×((L71×(List Int))×LB)) :=
 (brE (decide (i<(lN qd0 b0:Int)))
 (gdE (p0 i)<|
 (gdE (eC qd0 b0 i [K1.str,K1.str])<|
 ((qvl (q18t (List.getD (List.getD (EC.encL qd0 b0) (Int.toNat i) []) 0 C.ne)) name).bind λr0 =>
 (brE r0
 (gdE (p0 i)<|
 (gdE (eC qd0 b0 i [K1.str,K1.str])<|
 (gdE ((((aL [[(C.str (q18t (List.getD (List.getD (EC.encL qd0 b0) (Int.toNat i) []) 1 C.ne)))]] 1)&&(aL (EC.encL qd2 b1) 1))&&(dQ (out+(List.length [[(C.str (q18t (List.getD (List.getD (EC.encL qd0 b0) (Int.toNat i) []) 1 C.ne)))]])) 16))&&(decide ((out+(List.length [[(C.str (q18t (List.getD (List.getD (EC.encL qd0 b0) (Int.toNat i) []) 1 C.ne)))]]))<=9223372036854775807)))<|
 (gL qd0 b0<|
 (gL qcy b0_1<|
 (gdE (EC.isL qd2 ((EC.encL qd2 b1)++[[(C.str (q18t (List.getD (List.getD (EC.encL qd0 b0) (Int.toNat i) []) 1 C.ne)))]]))<|
 (qw3 name (out+(List.length [[(C.str (q18t (List.getD (List.getD (EC.encL qd0 b0) (Int.toNat i) []) 1 C.ne)))]])) (wI i) (dL qd0 b0) (dL qcy b0_1) (EC.decL qd2 ((EC.encL qd2 b1)++[[(C.str (q18t (List.getD (List.getD (EC.encL qd0 b0) (Int.toNat i) []) 1 C.ne)))]])))))))))
 (gL qd0 b0<|
 (gL qcy b0_1<|
 (gL qd2 b1<|
 (qw3 name out (wI i) (dL qd0 b0) (dL qcy b0_1) (dL qd2 b1)))))))))
 (gL qd0 b0<|
 (gL qcy b0_1<|
 (gL qd2 b1<|
 (some ((name,((),(out,(i,false)))),(((dL qd0 b0),(dL qcy b0_1)),(dL qd2 b1))))))))
theorem qw5 {name out i b0 b0_1 b1 r} (h:qw9 name out i b0 b0_1 b1=some r):qw3 name out i b0 b0_1 b1=some r :=
 qpn (es:=q1bv) (hs:=qml) [] (by kernel_rfl) trivial trivial (by kernel_rfl) h
def qw4:=qqh Tryz.prog lv X0 3 (qk8 (cdF Tryz.f11) 3) qw8 qw6 (λx=>qw3 x.1.1 x.1.2.2.1 x.1.2.2.2 x.2.1.1 x.2.1.2 x.2.2) (λ_ _ h=>qpm h)
def qw0:Cod (V×List B) (Nat×(List BA)):=(cPair (vRow 0) (qpl (bRow qd2)))
def qwa (qre:L71) (qra:(List Int)) (name:BA):=fS Tryz.prog lv X0 11 qvz qw0 ((qre,qra),name)
def qwb (qre:L71) (qra:(List Int)) (name:BA):Oq (Nat×LB) :=
 (gL qd0 qre<|
 (gL qcy qra<|
 ((qw3 name 0 0 (dL qd0 qre) (dL qcy qra) (EC.decL qd2 [])).bind λr0 =>
 (gL qd2 r0.2.2<|
 (some (r0.1.2.2.1,(dL qd2 r0.2.2)))))))
theorem qw2 {qre qra name r} (h:qwb qre qra name=some r):qwa qre qra name=some r :=
 qg7 (es:=q1bv) (hs:=qml) [qw4] Tryz.func11 rfl (by kernel_rfl) rfl (by kernel_rfl) (by kernel_rfl) ⟨⟨_,rfl,rfl⟩,trivial⟩ trivial (by kernel_rfl) h
def qw1:=entS Tryz.prog lv X0 11 [] qvz qw0 (λx=>qwa x.1.1 x.1.2 x.2) (λ_ _ h=>qg5 h)
def q1by:=qw1::q1bv
def qct:EC (List S71) where
 enc x:=[.sl (qd0.encL x)]
 dec c:=qd0.decL (slOf (c.getD 0 .ne))
 is c:=isE [.sl] 0 c&&qd0.isL (slOf (c.getD 0 .ne))
 enc_dec h:=by
  simp only [x6q] at h
  have h0:=qc4 h.1
  simp only [decE,decC] at h0
  simp only [EC.encL_decL _ h.2]
  exact h0
 dec_enc x:=by simp [q18t,qo4,q84,slOf]
 is_enc x:=by simp [isE,isK,slOf]
theorem enc_25 (x:(List S71)):qct.enc x=[.sl (qd0.encL x)]:=rfl
theorem qog (xs:List (List S71)) (n:Nat):isE [.sl] 0 ((qct.encL xs).getD n [])=decide (n<xs.length):=by
 by_cases h:n<xs.length
 ·simp only [EC.getD_lt _ _ h];simp [enc_25,isE,isK,h]
 ·simp only [EC.getD_ge _ _ (Nat.not_lt.1 h)];simp [isE,isK,h]
theorem q4b (xs:List (List S71)) (n:Nat):slOf (((qct.encL xs).getD n []).getD 0 .ne)=qd0.encL (xs.getD n (qct.dec [])):=by
 by_cases h:n<xs.length
 ·simp only [EC.getD_lt _ _ h];simp [enc_25,h,q18t,qo4,q84,slOf,List.getD_eq_getElem?_getD]
 ·simp only [EC.getD_ge _ _ (Nat.not_lt.1 h)];simp [Nat.not_lt.1 h,qct,q18t,qo4,q84,slOf,List.getD_eq_getElem?_getD,EC.decL,EC.encL]
theorem lit_25 (a0:(List S71)):([.sl (qd0.encL a0)]:List C)=qct.enc a0:=rfl
theorem q3y (xs:List (List S71)) (a0:(List S71)):qct.encL xs++[[.sl (qd0.encL a0)]]=qct.encL (xs++[a0]):=by rw [lit_25];simp [EC.encL]
theorem q3f (xs:List (List S71)):(qct.encL xs).all (λ(el:List C)=>el.length==1)=true:=by induction xs with|nil=>rfl|cons x xs ih=>first|(simp [EC.encL,enc_25];done)|simpa [EC.encL,enc_25] using ih
theorem q15f (xs:List (List S71)) (n:Nat) (a0:(List S71)):(qct.encL xs).set n (splice ((qct.encL xs).getD n []) 0 [.sl (qd0.encL a0)])=qct.encL (xs.set n (a0)):=by
 by_cases h:n<xs.length
 ·rw [EC.getD_lt _ _ h];simp [EC.encL,List.map_set,enc_25,splice,List.getD_eq_getElem?_getD,h]
 ·simp [EC.encL,List.set_eq_of_length_le,Nat.not_lt.1 h]
def q19p:=z1i
abbrev z1f:=(cFstU (cPair (vC cStr) (qpk (ρ:=B))))
def q19q:Cod (V×List B) BA:=z1f
def q19t (s suffix:BA):=fS Tryz.prog lv X0 160 q19p q19q (s,suffix)
def q19u (s suffix:BA):Oq BA :=
 ((q19n s suffix).bind λr0 =>
 (brE r0
 (gdE ((p0 (IntKind.wrap .i64 ((s.size:Int) - (suffix.size:Int))))&&(decide ((IntKind.wrap .i64 ((s.size:Int) - (suffix.size:Int)))<=(s.size:Int))))<|
 (some (ByteArray.extract s 0 (Int.toNat (IntKind.wrap .i64 ((s.size:Int) - (suffix.size:Int)))))))
 (some s)))
theorem q19s {s suffix r} (h:q19u s suffix=some r):q19t s suffix=some r :=
 qg7 (es:=q1by) (hs:=qml) [] Tryz.func160 rfl (by kernel_rfl) rfl (by kernel_rfl) (by kernel_rfl) trivial trivial (by kernel_rfl) h
def q19r:=entS Tryz.prog lv X0 160 [] q19p q19q (λx=>q19t x.1 x.2) (λ_ _ h=>qg5 h)
def q1cm:=q19r::q1by
def q197:=z1i
def q198:Cod (V×List B) BA:=z1f
def q19b (s suffix:BA):=fS Tryz.prog lv X0 137 q197 q198 (s,suffix)
def q19c (s suffix:BA):Oq BA :=
 ((q19t s suffix).bind λr0 =>
 (some r0))
theorem q19a {s suffix r} (h:q19c s suffix=some r):q19b s suffix=some r :=
 qg7 (es:=q1cm) (hs:=qml) [] Tryz.func137 rfl (by kernel_rfl) rfl (by kernel_rfl) (by kernel_rfl) trivial trivial (by kernel_rfl) h
def q199:=entS Tryz.prog lv X0 137 [] q197 q198 (λx=>q19b x.1 x.2) (λ_ _ h=>qg5 h)
def q1cj:=q199::q1cm
def q9x:=(qpl (vC cStr))
abbrev z1l:=(qpl (qu4 (bRow qcy)))
def qa6:=sLS [0,3,8,9] (qpj (vC cStr) (qpj (vRow 0) z1b)) z1l [false] [] (by decide) (λ_=>rfl)
abbrev z1c:=(qpj (vC (cInt .i64)) (qpj (vC (cInt .i64)) (qpl (vC cBool))))
def qa5:=sLS [0,3,8,9,10] (qpj (vC cStr) (qpj (vRow 0) z1c)) z1l [false] [] (by decide) (λ_=>rfl)
def qa4:=oAt 2 qa5
def qa1 (s:BA) (out:Nat) (t8 t9:Int) (b0:(List Int)):=lS Tryz.prog lv X0 116 37 (qk8 (cdF Tryz.f116) 3) qa6 qa4 ((s,out,t8,t9),b0)
def qa7 (s:BA) (out:Nat) (t8 t9:Int) (b0:(List Int)):Oq ((BA×Nat×Int×Int×Bool)×(List Int)) :=
 (brE (decide (t9<t8))
 (gdE ((p0 t9)&&(decide ((Int.toNat t9)<s.size)))<|
 ((q5c (((UInt8.toNat (Array.getD s.data (Int.toNat t9) (0:UInt8))):Nat):Int)).bind λr0 =>
 (brE r0
 (brE ((decide (((out:Nat):Int)>0))==true)
 (gdE ((p0 (IntKind.wrap .i64 (((out:Nat):Int) - 1)))&&(decide ((IntKind.wrap .i64 (((out:Nat):Int) - 1))<((out:Nat):Int))))<|
 (gdE ((decide ((Int.toNat (IntKind.wrap .i64 (((out:Nat):Int) - 1)))<(lN qcy b0)))&&((List.length (List.getD (EC.encL qcy b0) (Int.toNat (IntKind.wrap .i64 (((out:Nat):Int) - 1))) []))==1))<|
 (gdE (isP [(K1.int Go.IntKind.u8)] 0 (List.getD (EC.encL qcy b0) (Int.toNat (IntKind.wrap .i64 (((out:Nat):Int) - 1))) []))<|
 (brE ((qo4 (List.getD (List.getD (EC.encL qcy b0) (Int.toNat (IntKind.wrap .i64 (((out:Nat):Int) - 1))) []) 0 C.ne))==32)
 (gL qcy b0<|
 (qa1 s out t8 (wI t9) (dL qcy b0)))
 (gdE ((((aL [[(C.int Go.IntKind.u8 32)]] 1)&&(aL (EC.encL qcy b0) 1))&&(dQ (out+(List.length [[(C.int Go.IntKind.u8 32)]])) 1))&&(decide ((out+(List.length [[(C.int Go.IntKind.u8 32)]]))<=9223372036854775807)))<|
 (gdE (EC.isL qcy ((EC.encL qcy b0)++[[(C.int Go.IntKind.u8 32)]]))<|
 (qa1 s (out+(List.length [[(C.int Go.IntKind.u8 32)]])) t8 (wI t9) (EC.decL qcy ((EC.encL qcy b0)++[[(C.int Go.IntKind.u8 32)]])))))))))
 (gdE ((((aL [[(C.int Go.IntKind.u8 32)]] 1)&&(aL (EC.encL qcy b0) 1))&&(dQ (out+(List.length [[(C.int Go.IntKind.u8 32)]])) 1))&&(decide ((out+(List.length [[(C.int Go.IntKind.u8 32)]]))<=9223372036854775807)))<|
 (gdE (EC.isL qcy ((EC.encL qcy b0)++[[(C.int Go.IntKind.u8 32)]]))<|
 (qa1 s (out+(List.length [[(C.int Go.IntKind.u8 32)]])) t8 (wI t9) (EC.decL qcy ((EC.encL qcy b0)++[[(C.int Go.IntKind.u8 32)]]))))))
 (gdE ((((aL [[(C.int Go.IntKind.u8 (((UInt8.toNat (Array.getD s.data (Int.toNat t9) (0:UInt8))):Nat):Int))]] 1)&&(aL (EC.encL qcy b0) 1))&&(dQ (out+(List.length [[(C.int Go.IntKind.u8 (((UInt8.toNat (Array.getD s.data (Int.toNat t9) (0:UInt8))):Nat):Int))]])) 1))&&(decide ((out+(List.length [[(C.int Go.IntKind.u8 (((UInt8.toNat (Array.getD s.data (Int.toNat t9) (0:UInt8))):Nat):Int))]]))<=9223372036854775807)))<|
 (gdE (EC.isL qcy ((EC.encL qcy b0)++[[(C.int Go.IntKind.u8 (((UInt8.toNat (Array.getD s.data (Int.toNat t9) (0:UInt8))):Nat):Int))]]))<|
 (qa1 s (out+(List.length [[(C.int Go.IntKind.u8 (((UInt8.toNat (Array.getD s.data (Int.toNat t9) (0:UInt8))):Nat):Int))]])) t8 (wI t9) (EC.decL qcy ((EC.encL qcy b0)++[[(C.int Go.IntKind.u8 (((UInt8.toNat (Array.getD s.data (Int.toNat t9) (0:UInt8))):Nat):Int))]]))))))))
 (gL qcy b0<|
 (some ((s,(out,(t8,(t9,false)))),(dL qcy b0)))))
theorem qa3 {s out t8 t9 b0 r} (h:qa7 s out t8 t9 b0=some r):qa1 s out t8 t9 b0=some r :=
 qpn (es:=q1cj) (hs:=qml) [] (by kernel_rfl) trivial trivial (by kernel_rfl) h
def qa2:=qqh Tryz.prog lv X0 3 (qk8 (cdF Tryz.f116) 3) qa6 qa4 (λx=>qa1 x.1.1 x.1.2.1 x.1.2.2.1 x.1.2.2.2 x.2) (λ_ _ h=>qpm h)
def q9y:Cod (V×List B) BA:=z1f
def qa8 (s:BA):=fS Tryz.prog lv X0 116 q9x q9y s
def qa9 (s:BA):Oq BA :=
 ((qa1 s 0 (s.size:Int) 0 (EC.decL qcy [])).bind λr0 =>
 ((bytesOf (EC.encL qcy r0.2)).bind λr1 =>
 ((q19b (ByteArray.mk (List.toArray r1)) (ByteArray.mk (List.toArray [32]))).bind λr2 =>
 (some r2))))
theorem qa0 {s r} (h:qa9 s=some r):qa8 s=some r :=
 qg7 (es:=q1cj) (hs:=qml) [qa2] Tryz.func116 rfl (by kernel_rfl) rfl (by kernel_rfl) (by kernel_rfl) ⟨⟨_,rfl,rfl⟩,trivial⟩ trivial (by kernel_rfl) h
def q9z:=entS Tryz.prog lv X0 116 [] q9x q9y (λx=>qa8 x) (λ_ _ h=>qg5 h)
def q1ar:=q9z::q1cj
def q9r:=(qpl (vAgg z1i))
def q9s:Cod (V×List B) BA:=z1f
def q9v (x_Name x_Value:BA):=fS Tryz.prog lv X0 83 q9r q9s (x_Name,x_Value)
def q9w (x_Name x_Value:BA):Oq BA :=
 ((q6l x_Name).bind λr0 =>
 (brE (decide ((((r0.size+(ByteArray.size (ByteArray.mk (List.toArray [58])))):Nat):Int)>(Go.IntKind.max Go.IntKind.i64)))
 none
 ((qa8 x_Value).bind λr1 =>
 (brE (decide (((((ByteArray.size (r0++(ByteArray.mk (List.toArray [58]))))+r1.size):Nat):Int)>(Go.IntKind.max Go.IntKind.i64)))
 none
 (brE (decide (((((ByteArray.size ((r0++(ByteArray.mk (List.toArray [58])))++r1))+(ByteArray.size (ByteArray.mk (List.toArray [13,10])))):Nat):Int)>(Go.IntKind.max Go.IntKind.i64)))
 none
 (some (((r0++(ByteArray.mk (List.toArray [58])))++r1)++(ByteArray.mk (List.toArray [13,10])))))))))
theorem q9u {x_Name x_Value r} (h:q9w x_Name x_Value=some r):q9v x_Name x_Value=some r :=
 qg7 (es:=q1ar) (hs:=qml) [] Tryz.func83 rfl (by kernel_rfl) rfl (by kernel_rfl) (by kernel_rfl) trivial trivial (by kernel_rfl) h
def q9t:=entS Tryz.prog lv X0 83 [] q9r q9s (λx=>q9v x.1 x.2) (λ_ _ h=>qg5 h)
def q1aq:=q9t::q1ar
def qcx:EC Bool where
 enc x:=[.bool x]
 dec c:=q84 (c.getD 0 .ne)
 is c:=isE [.bool] 0 c
 enc_dec h:=qc4 h
 dec_enc x:=by rfl
 is_enc x:=by simp [isE,isK]
theorem enc_4 (x:Bool):qcx.enc x=[.bool x]:=rfl
theorem qok (xs:List Bool) (n:Nat):isE [.bool] 0 ((qcx.encL xs).getD n [])=decide (n<xs.length):=by
 by_cases h:n<xs.length
 ·simp only [EC.getD_lt _ _ h];simp [enc_4,isE,isK,h]
 ·simp only [EC.getD_ge _ _ (Nat.not_lt.1 h)];simp [isE,isK,h]
theorem q4w (xs:List Bool) (n:Nat):q84 (((qcx.encL xs).getD n []).getD 0 .ne)=(xs.getD n (qcx.dec [])):=by
 by_cases h:n<xs.length
 ·simp only [EC.getD_lt _ _ h];simp [enc_4,h,q18t,qo4,q84,slOf,List.getD_eq_getElem?_getD]
 ·simp only [EC.getD_ge _ _ (Nat.not_lt.1 h)];simp [Nat.not_lt.1 h,qcx,q18t,qo4,q84,slOf,List.getD_eq_getElem?_getD,EC.decL,EC.encL]
theorem lit_4 (a0:Bool):([.bool a0]:List C)=qcx.enc a0:=rfl
theorem q42 (xs:List Bool) (a0:Bool):qcx.encL xs++[[.bool a0]]=qcx.encL (xs++[a0]):=by rw [lit_4];simp [EC.encL]
theorem q3j (xs:List Bool):(qcx.encL xs).all (λ(el:List C)=>el.length==1)=true:=by induction xs with|nil=>rfl|cons x xs ih=>first|(simp [EC.encL,enc_4];done)|simpa [EC.encL,enc_4] using ih
theorem q163 (xs:List Bool) (n:Nat) (a0:Bool):(qcx.encL xs).set n (splice ((qcx.encL xs).getD n []) 0 [.bool a0])=qcx.encL (xs.set n (a0)):=by
 by_cases h:n<xs.length
 ·rw [EC.getD_lt _ _ h];simp [EC.encL,List.map_set,enc_4,splice,List.getD_eq_getElem?_getD,h]
 ·simp [EC.encL,List.set_eq_of_length_le,Nat.not_lt.1 h]
def q96:=(qpj (vC (cSl qd0)) (qpl (vC (cSl qd2))))
abbrev z1d:=(qpj (qu4 (bBox z1b)) (qpj (qu4 (bRow qcx)) (qpl (qu4 (bRow qcy)))))
def q9g:=sLS [0,5,7,8,10,11,24,25,26] (qpj (vC (cSl qd0)) (qpj (vPtr 0 0) (qpj (vRow 1) (qpj (vRow 2) (qpj (vC cStr) (qpj z1j (qpj (vC (cSl qd2)) z1b))))))) z1d [false,false,false] [] (by decide) (λ_=>rfl)
abbrev z1g:=(qpj (vC (cSl qd0)) (qpj (vPtr 0 0) (qpj (vRow 1) (qpj (vRow 2) (qpj (vC (cSl qd2)) z1b)))))
def q9e:=sLS [0,5,7,8,24,25,26] z1g z1d [false,false,false] [] (by decide) (λ_=>rfl)
def q9f:SC (((List S71)×Unit×Nat×Nat×BA×Int×(List BA)×Int×Int×Bool)×((Int×Int)×(List Bool)×(List Int))):=sLS [0,5,7,8,10,11,24,25,26,34] (qpj (vC (cSl qd0)) (qpj (vPtr 0 0) (qpj (vRow 1) (qpj (vRow 2) (qpj (vC cStr) (qpj (vC (cInt .i64)) (qpj (vC (cSl qd2)) (qpj (vC (cInt .i64)) (qpj (vC (cInt .i64)) (qpl (vC cBool))))))))))) (qpj (qu4 (bBox (qpj (vC (cInt .i64)) (qpl (vC (cInt .i64)))))) (qpj (qu4 (bRow qcx)) (qpl (qu4 (bRow qcy))))) [false,false,false] [] (by decide) (λ_=>rfl)
def q9d:=oOrK 4 [0,5,7,8,10,11,24,25,26,34] q9f (oAt 4 q9e) (λx y=>.inr (st_ne 10 (by decide:(false:Bool)≠true)))
def q9a (l:L71) (used out:Nat) (n:BA) (i:Int) (t24:LB) (t25 t26:Int) (b0 b0_1:Int) (b1:(List Bool)) (b2:(List Int)):=lS Tryz.prog lv X0 49 64 (qk8 (cdF Tryz.f49) 12) q9g q9d ((l,(),used,out,n,i,t24,t25,t26),((b0,b0_1),b1,b2))
def q9h (l:L71) (used out:Nat) (n:BA) (i:Int) (t24:LB) (t25 t26:Int) (b0 b0_1:Int) (b1:(List Bool)) (b2:(List Int)):Oq (((L71×Unit×Nat×Nat×BA×Int×LB×Int×Int×Bool)×((Int×Int)×(List Bool)×(List Int)))⊕((L71×Unit×Nat×Nat×LB×Int×Int)×((Int×Int)×(List Bool)×(List Int)))) :=
 (brE (decide (i≥0))
 (gdE ((p0 i)&&(decide (i<((used:Nat):Int))))<|
 (gdE ((decide ((Int.toNat i)<(lN qcx b1)))&&((List.length (List.getD (EC.encL qcx b1) (Int.toNat i) []))==1))<|
 (gdE (isP [K1.bool] 0 (List.getD (EC.encL qcx b1) (Int.toNat i) []))<|
 (brE ((!(q84 (List.getD (List.getD (EC.encL qcx b1) (Int.toNat i) []) 0 C.ne)))==true)
 (gdE (p0 i)<|
 (gdE (eC qd0 l i [K1.str,K1.str])<|
 ((q79 (q18t (List.getD (List.getD (EC.encL qd0 l) (Int.toNat i) []) 0 C.ne)) n).bind λr0 =>
 (brE r0
 (gdE ((p0 i)&&(decide (i<((used:Nat):Int))))<|
 (gdE ((decide ((Int.toNat i)<(lN qcx b1)))&&((List.length (List.getD (EC.encL qcx b1) (Int.toNat i) []))==1))<|
 (gdE (p0 i)<|
 (gdE (eC qd0 l i [K1.str,K1.str])<|
 ((q9v (q18t (List.getD (List.getD (EC.encL qd0 l) (Int.toNat i) []) 0 C.ne)) (q18t (List.getD (List.getD (EC.encL qd0 l) (Int.toNat i) []) 1 C.ne))).bind λr1 =>
 (gdE ((((aL (List.map (λ(b:UInt8)=>[(byteC b)]) (Array.toList r1.data)) 1)&&(aL (EC.encL qcy b2) 1))&&(dQ (out+(List.length (List.map (λ(b:UInt8)=>[(byteC b)]) (Array.toList r1.data)))) 1))&&(decide ((out+(List.length (List.map (λ(b:UInt8)=>[(byteC b)]) (Array.toList r1.data))))<=9223372036854775807)))<|
 (gL qd0 l<|
 (gL qd2 t24<|
 (gdE (EC.isL qcx (List.set (EC.encL qcx b1) (Int.toNat i) (splice (List.getD (EC.encL qcx b1) (Int.toNat i) []) 0 [(C.bool true)])))<|
 (gdE (EC.isL qcy ((EC.encL qcy b2)++(List.map (λ(b:UInt8)=>[(byteC b)]) (Array.toList r1.data))))<|
 (some (.inr (((dL qd0 l),((),(used,((out+(List.length (List.map (λ(b:UInt8)=>[(byteC b)]) (Array.toList r1.data)))),((dL qd2 t24),(t25,t26)))))),((b0,b0_1),((EC.decL qcx (List.set (EC.encL qcx b1) (Int.toNat i) (splice (List.getD (EC.encL qcx b1) (Int.toNat i) []) 0 [(C.bool true)]))),(EC.decL qcy ((EC.encL qcy b2)++(List.map (λ(b:UInt8)=>[(byteC b)]) (Array.toList r1.data)))))))))))))))))))
 (gL qd0 l<|
 (gL qd2 t24<|
 (gL qcx b1<|
 (gL qcy b2<|
 (q9a (dL qd0 l) used out n (IntKind.wrap .i64 (i - 1)) (dL qd2 t24) t25 t26 b0 b0_1 (dL qcx b1) (dL qcy b2))))))))))
 (gL qd0 l<|
 (gL qd2 t24<|
 (gL qcx b1<|
 (gL qcy b2<|
 (q9a (dL qd0 l) used out n (IntKind.wrap .i64 (i - 1)) (dL qd2 t24) t25 t26 b0 b0_1 (dL qcx b1) (dL qcy b2))))))))))
 (gL qd0 l<|
 (gL qd2 t24<|
 (gL qcx b1<|
 (gL qcy b2<|
 (some (.inl (((dL qd0 l),((),(used,(out,(n,(i,((dL qd2 t24),(t25,(t26,false))))))))),((b0,b0_1),((dL qcx b1),(dL qcy b2)))))))))))
theorem q9c {l used out n i t24 t25 t26 b0 b0_1 b1 b2 r} (h:q9h l used out n i t24 t25 t26 b0 b0_1 b1 b2=some r):q9a l used out n i t24 t25 t26 b0 b0_1 b1 b2=some r :=
 qpn (es:=q1aq) (hs:=qml) [] (by kernel_rfl) trivial trivial (by kernel_rfl) h
def q9b:=qqh Tryz.prog lv X0 12 (qk8 (cdF Tryz.f49) 12) q9g q9d (λx=>q9a x.1.1 x.1.2.2.1 x.1.2.2.2.1 x.1.2.2.2.2.1 x.1.2.2.2.2.2.1 x.1.2.2.2.2.2.2.1 x.1.2.2.2.2.2.2.2.1 x.1.2.2.2.2.2.2.2.2 x.2.1.1 x.2.1.2 x.2.2.1 x.2.2.2) (λ_ _ h=>qpm h)
def q9n:=sLS [0,5,7,8,24,25,26] z1g z1d [false,false,false] [] (by decide) (λ_=>rfl)
def q9m:=sLS [0,5,7,8,24,25,26,27] (qpj (vC (cSl qd0)) (qpj (vPtr 0 0) (qpj (vRow 1) (qpj (vRow 2) (qpj (vC (cSl qd2)) z1c))))) z1d [false,false,false] [] (by decide) (λ_=>rfl)
def q9l:=oAt 2 q9m
def q9i (l:L71) (used out:Nat) (t24:LB) (t25 t26:Int) (b0 b0_1:Int) (b1:(List Bool)) (b2:(List Int)):=lS Tryz.prog lv X0 49 64 (qk8 (cdF Tryz.f49) 9) q9n q9l ((l,(),used,out,t24,t25,t26),((b0,b0_1),b1,b2))
def q9o (l:L71) (used out:Nat) (t24:LB) (t25 t26:Int) (b0 b0_1:Int) (b1:(List Bool)) (b2:(List Int)):Oq ((L71×Unit×Nat×Nat×LB×Int×Int×Bool)×((Int×Int)×(List Bool)×(List Int))) :=
 (brE (decide (t26<t25))
 (gdE (p0 t26)<|
 (gdE (eC qd2 t24 t26 [K1.str])<|
 (gL qd0 l<|
 (gL qd2 t24<|
 (gL qcx b1<|
 (gL qcy b2<|
 ((q9a (dL qd0 l) used out (q18t (List.getD (List.getD (EC.encL qd2 t24) (Int.toNat t26) []) 0 C.ne)) (IntKind.wrap .i64 ((lN qd0 l:Int) - 1)) (dL qd2 t24) t25 t26 b0 b0_1 (dL qcx b1) (dL qcy b2)).bind λr0 =>
 (Sum.elim (λr1=>(gdE (EC.isL qd0 (EC.encL qd0 r1.1.1))<|
 (gL qd2 r1.1.2.2.2.2.2.2.1<|
 (gL qcx r1.2.2.1<|
 (gL qcy r1.2.2.2<|
 (q9i (dL qd0 r1.1.1) r1.1.2.2.1 r1.1.2.2.2.1 (dL qd2 r1.1.2.2.2.2.2.2.1) r1.1.2.2.2.2.2.2.2.1 (wI r1.1.2.2.2.2.2.2.2.2.1) r1.2.1.1 r1.2.1.2 (dL qcx r1.2.2.1) (dL qcy r1.2.2.2)))))))
 (λr1=>(gdE (EC.isL qd0 (EC.encL qd0 r1.1.1))<|
 (gL qd2 r1.1.2.2.2.2.1<|
 (gL qcx r1.2.2.1<|
 (gL qcy r1.2.2.2<|
 (q9i (dL qd0 r1.1.1) r1.1.2.2.1 r1.1.2.2.2.1 (dL qd2 r1.1.2.2.2.2.1) r1.1.2.2.2.2.2.1 (wI r1.1.2.2.2.2.2.2) r1.2.1.1 r1.2.1.2 (dL qcx r1.2.2.1) (dL qcy r1.2.2.2))))))) r0))))))))
 (gL qd0 l<|
 (gL qd2 t24<|
 (gL qcx b1<|
 (gL qcy b2<|
 (some (((dL qd0 l),((),(used,(out,((dL qd2 t24),(t25,(t26,false))))))),((b0,b0_1),((dL qcx b1),(dL qcy b2))))))))))
theorem q9k {l used out t24 t25 t26 b0 b0_1 b1 b2 r} (h:q9o l used out t24 t25 t26 b0 b0_1 b1 b2=some r):q9i l used out t24 t25 t26 b0 b0_1 b1 b2=some r :=
 qpn (es:=q1aq) (hs:=qml) [q9b] (by kernel_rfl) ⟨⟨_,rfl,rfl⟩,trivial⟩ trivial (by kernel_rfl) h
def q9j:=qqh Tryz.prog lv X0 9 (qk8 (cdF Tryz.f49) 9) q9n q9l (λx=>q9i x.1.1 x.1.2.2.1 x.1.2.2.2.1 x.1.2.2.2.2.1 x.1.2.2.2.2.2.1 x.1.2.2.2.2.2.2 x.2.1.1 x.2.1.2 x.2.2.1 x.2.2.2) (λ_ _ h=>qpm h)
def q97:Cod (V×List B) ((Nat×(Int×Int))×(List Int)):=(cPair (vTup (qpj (vRow 0) (qpl (vAgg z1b)))) (qpl (bRow qcy)))
def q9p (l:L71) (names:LB):=fS Tryz.prog lv X0 49 q96 q97 (l,names)
def q9q (l:L71) (names:LB):Oq ((Nat×(Int×Int))×(List Int)) :=
 (gL qd0 l<|
 ((qlq (dL qd0 l)).bind λr0 =>
 ((q5w r0.1 r0.2).bind λr1 =>
 (brE r1
 (some ((0,(r0.1,r0.2)),(EC.decL qcy [])))
 (brE (decide ((lN qd2 names:Int)>300))
 ((q62 2 (-2)).bind λr2 =>
 (some ((0,(r2.1,r2.2)),(EC.decL qcy []))))
 (gdE ((((decide ((lN qd0 l:Int)=(lN qd0 l:Int)))&&(p0 (lN qd0 l:Int)))&&(decide (((lN qd0 l:Int)*((1:Nat):Int))<=140737488355328)))&&(decide ((lN qd0 l:Int)<=9223372036854775807)))<|
 (gL qd0 l<|
 (gL qd2 names<|
 (gdE (EC.isL qcx (List.replicate (Int.toNat (lN qd0 l:Int)) [(C.bool false)]))<|
 ((q9i (dL qd0 l) (Int.toNat (lN qd0 l:Int)) 0 (dL qd2 names) (lN qd2 names:Int) 0 0 0 (EC.decL qcx (List.replicate (Int.toNat (lN qd0 l:Int)) [(C.bool false)])) (EC.decL qcy [])).bind λr2 =>
 (Option.bind q73 λr3 =>
 (gL qcy r2.2.2.2<|
 (some ((r2.1.2.2.2.1,(r3.1,r3.2)),(dL qcy r2.2.2.2)))))))))))))))
theorem q99 {l names r} (h:q9q l names=some r):q9p l names=some r :=
 qg7 (es:=q1aq) (hs:=qml) [q9j] Tryz.func49 rfl (by kernel_rfl) rfl (by kernel_rfl) (by kernel_rfl) ⟨⟨_,rfl,rfl⟩,trivial⟩ trivial (by kernel_rfl) h
def q98:=entS Tryz.prog lv X0 49 [] q96 q97 (λx=>q9p x.1 x.2) (λ_ _ h=>qg5 h)
def q1ap:=q98::q1aq
abbrev z1k:=(vC (cInt .u64))
def q16x:=(qpj z1k (qpl (vC (cSl qcy))))
def q176:=sLS [1,5,10,11,12] (qpj (vC (cSl qcy)) (qpj z1k (qpj (vC (cSl qcy)) z1b))) qpk [] [] (by decide) (λ_=>rfl)
def q175:=sLS [1,5,10,11,12,13] (qpj (vC (cSl qcy)) (qpj z1k (qpj (vC (cSl qcy)) z1c))) qpk [] [] (by decide) (λ_=>rfl)
def q174:=oAt 2 q175
def q171 (b:(List Int)) (x:Int) (t10:(List Int)) (t11 t12:Int):=lS Tryz.prog lv X0 52 36 (qk8 (cdF Tryz.f52) 3) q176 q174 ((b,x,t10,t11,t12),())
def q177 (b:(List Int)) (x:Int) (t10:(List Int)) (t11 t12:Int):Oq (((List Int)×Int×(List Int)×Int×Int×Bool)×Unit) :=
 (brE (decide (t12<t11))
 (gdE (p0 t12)<|
 (gdE (eC qcy t10 t12 [(K1.int Go.IntKind.u8)])<|
 (gL qcy b<|
 (gL qcy t10<|
 (q171 (dL qcy b) (IntKind.wrap .u64 (((BitVec.toNat ((BitVec.ofInt (Go.IntKind.bits Go.IntKind.u64) (IntKind.wrap .u64 ((IntKind.wrap .u64 (((BitVec.toNat ((BitVec.ofInt (Go.IntKind.bits Go.IntKind.u64) x) ^^^ (BitVec.ofInt (Go.IntKind.bits Go.IntKind.u64) (IntKind.wrap .u64 (qo4 (List.getD (List.getD (EC.encL qcy t10) (Int.toNat t12) []) 0 C.ne)))))):Nat):Int))*1099511628211))) ^^^ (BitVec.ofInt (Go.IntKind.bits Go.IntKind.u64) (Int.fdiv (IntKind.wrap .u64 ((IntKind.wrap .u64 (((BitVec.toNat ((BitVec.ofInt (Go.IntKind.bits Go.IntKind.u64) x) ^^^ (BitVec.ofInt (Go.IntKind.bits Go.IntKind.u64) (IntKind.wrap .u64 (qo4 (List.getD (List.getD (EC.encL qcy t10) (Int.toNat t12) []) 0 C.ne)))))):Nat):Int))*1099511628211)) (2 ^ (Min.min (Int.toNat 29) (Go.IntKind.bits Go.IntKind.u64))))))):Nat):Int)) (dL qcy t10) t11 (wI t12))))))
 (gL qcy b<|
 (gL qcy t10<|
 (some (((dL qcy b),(x,((dL qcy t10),(t11,(t12,false))))),())))))
theorem q173 {b x t10 t11 t12 r} (h:q177 b x t10 t11 t12=some r):q171 b x t10 t11 t12=some r :=
 qpn (es:=q1ap) (hs:=qml) [] (by kernel_rfl) trivial trivial (by kernel_rfl) h
def q172:=qqh Tryz.prog lv X0 3 (qk8 (cdF Tryz.f52) 3) q176 q174 (λx=>q171 x.1.1 x.1.2.1 x.1.2.2.1 x.1.2.2.2.1 x.1.2.2.2.2) (λ_ _ h=>qpm h)
def q16y:Cod (V×List B) Int:=(cFstU (cPair z1k qpk))
def q178 (key:Int) (b:(List Int)):=fS Tryz.prog lv X0 52 q16x q16y (key,b)
def q179 (key:Int) (b:(List Int)):Oq Int :=
 (gL qcy b<|
 (gL qcy b<|
 (Option.bind (q171 (dL qcy b) (IntKind.wrap .u64 (((BitVec.toNat ((BitVec.ofInt (Go.IntKind.bits Go.IntKind.u64) key) ^^^ (BitVec.ofInt (Go.IntKind.bits Go.IntKind.u64) 11400714819323198485))):Nat):Int)) (dL qcy b) (lN qcy b:Int) 0) λr0 =>
 (some (IntKind.wrap .u64 (((BitVec.toNat ((BitVec.ofInt (Go.IntKind.bits Go.IntKind.u64) (IntKind.wrap .u64 ((IntKind.wrap .u64 (((BitVec.toNat ((BitVec.ofInt (Go.IntKind.bits Go.IntKind.u64) r0.1.2.1) ^^^ (BitVec.ofInt (Go.IntKind.bits Go.IntKind.u64) (IntKind.wrap .u64 (((lN qcy r0.1.1):Nat):Int))))):Nat):Int))*13787848793156543929))) ^^^ (BitVec.ofInt (Go.IntKind.bits Go.IntKind.u64) (Int.fdiv (IntKind.wrap .u64 ((IntKind.wrap .u64 (((BitVec.toNat ((BitVec.ofInt (Go.IntKind.bits Go.IntKind.u64) r0.1.2.1) ^^^ (BitVec.ofInt (Go.IntKind.bits Go.IntKind.u64) (IntKind.wrap .u64 (((lN qcy r0.1.1):Nat):Int))))):Nat):Int))*13787848793156543929)) (2 ^ (Min.min (Int.toNat 31) (Go.IntKind.bits Go.IntKind.u64))))))):Nat):Int))))))
theorem q170 {key b r} (h:q179 key b=some r):q178 key b=some r :=
 qg7 (es:=q1ap) (hs:=qml) [q172] Tryz.func52 rfl (by kernel_rfl) rfl (by kernel_rfl) (by kernel_rfl) ⟨⟨_,rfl,rfl⟩,trivial⟩ trivial (by kernel_rfl) h
def q16z:=entS Tryz.prog lv X0 52 [] q16x q16y (λx=>q178 x.1 x.2) (λ_ _ h=>qg5 h)
def q1ce:=q16z::q1ap
def q16e:=(qpl z1k)
def q16n:=sLS [0,3,7,8] (qpj z1k (qpj (vRow 0) z1b)) z1l [false] [] (by decide) (λ_=>rfl)
def q16m:=sLS [0,3,7,8,9] (qpj z1k (qpj (vRow 0) z1c)) z1l [false] [] (by decide) (λ_=>rfl)
def q16l:=oAt 2 q16m
def q16i (n:Int) (out:Nat) (t7 t8:Int) (b0:(List Int)):=lS Tryz.prog lv X0 51 24 (qk8 (cdF Tryz.f51) 3) q16n q16l ((n,out,t7,t8),b0)
def q16o (n:Int) (out:Nat) (t7 t8:Int) (b0:(List Int)):Oq ((Int×Nat×Int×Int×Bool)×(List Int)) :=
 (brE (decide (t8<t7))
 (brE (decide ((IntKind.wrap .i64 (60 - (IntKind.wrap .i64 (4*t8))))<0))
 none
 (gdE ((p0 (IntKind.wrap .u64 (((BitVec.toNat ((BitVec.ofInt (Go.IntKind.bits Go.IntKind.u64) (Int.fdiv n (2 ^ (Min.min (Int.toNat (IntKind.wrap .i64 (60 - (IntKind.wrap .i64 (4*t8))))) (Go.IntKind.bits Go.IntKind.u64))))) &&& (BitVec.ofInt (Go.IntKind.bits Go.IntKind.u64) 15))):Nat):Int)))&&(decide ((Int.toNat (IntKind.wrap .u64 (((BitVec.toNat ((BitVec.ofInt (Go.IntKind.bits Go.IntKind.u64) (Int.fdiv n (2 ^ (Min.min (Int.toNat (IntKind.wrap .i64 (60 - (IntKind.wrap .i64 (4*t8))))) (Go.IntKind.bits Go.IntKind.u64))))) &&& (BitVec.ofInt (Go.IntKind.bits Go.IntKind.u64) 15))):Nat):Int)))<(ByteArray.size (ByteArray.mk (List.toArray [48,49,50,51,52,53,54,55,56,57,97,98,99,100,101,102]))))))<|
 (gdE ((p0 t8)&&(decide (t8<((out:Nat):Int))))<|
 (gdE ((decide ((Int.toNat t8)<(lN qcy b0)))&&((List.length (List.getD (EC.encL qcy b0) (Int.toNat t8) []))==1))<|
 (gdE (EC.isL qcy (List.set (EC.encL qcy b0) (Int.toNat t8) (splice (List.getD (EC.encL qcy b0) (Int.toNat t8) []) 0 [(C.int Go.IntKind.u8 (((UInt8.toNat (Array.getD (List.toArray [(48:UInt8),(49:UInt8),(50:UInt8),(51:UInt8),(52:UInt8),(53:UInt8),(54:UInt8),(55:UInt8),(56:UInt8),(57:UInt8),(97:UInt8),(98:UInt8),(99:UInt8),(100:UInt8),(101:UInt8),(102:UInt8)]) (Int.toNat (IntKind.wrap .u64 (((BitVec.toNat ((BitVec.ofInt (Go.IntKind.bits Go.IntKind.u64) (Int.fdiv n (2 ^ (Min.min (Int.toNat (IntKind.wrap .i64 (60 - (IntKind.wrap .i64 (4*t8))))) (Go.IntKind.bits Go.IntKind.u64))))) &&& (BitVec.ofInt (Go.IntKind.bits Go.IntKind.u64) 15))):Nat):Int))) (0:UInt8))):Nat):Int))])))<|
 (q16i n out t7 (wI t8) (EC.decL qcy (List.set (EC.encL qcy b0) (Int.toNat t8) (splice (List.getD (EC.encL qcy b0) (Int.toNat t8) []) 0 [(C.int Go.IntKind.u8 (((UInt8.toNat (Array.getD (List.toArray [(48:UInt8),(49:UInt8),(50:UInt8),(51:UInt8),(52:UInt8),(53:UInt8),(54:UInt8),(55:UInt8),(56:UInt8),(57:UInt8),(97:UInt8),(98:UInt8),(99:UInt8),(100:UInt8),(101:UInt8),(102:UInt8)]) (Int.toNat (IntKind.wrap .u64 (((BitVec.toNat ((BitVec.ofInt (Go.IntKind.bits Go.IntKind.u64) (Int.fdiv n (2 ^ (Min.min (Int.toNat (IntKind.wrap .i64 (60 - (IntKind.wrap .i64 (4*t8))))) (Go.IntKind.bits Go.IntKind.u64))))) &&& (BitVec.ofInt (Go.IntKind.bits Go.IntKind.u64) 15))):Nat):Int))) (0:UInt8))):Nat):Int))])))))))))
 (gL qcy b0<|
 (some ((n,(out,(t7,(t8,false)))),(dL qcy b0)))))
theorem q16k {n out t7 t8 b0 r} (h:q16o n out t7 t8 b0=some r):q16i n out t7 t8 b0=some r :=
 qpn (es:=q1ce) (hs:=qml) [] (by kernel_rfl) trivial trivial (by kernel_rfl) h
def q16j:=qqh Tryz.prog lv X0 3 (qk8 (cdF Tryz.f51) 3) q16n q16l (λx=>q16i x.1.1 x.1.2.1 x.1.2.2.1 x.1.2.2.2 x.2) (λ_ _ h=>qpm h)
def q16f:Cod (V×List B) BA:=z1f
def q16p (n:Int):=fS Tryz.prog lv X0 51 q16e q16f n
def q16q (n:Int):Oq BA :=
 ((q16i n (Int.toNat 16) (((Int.toNat 16):Nat):Int) 0 (EC.decL qcy (List.replicate (Int.toNat 16) [(C.int Go.IntKind.u8 0)]))).bind λr0 =>
 ((bytesOf (EC.encL qcy r0.2)).bind λr1 =>
 (some (ByteArray.mk (List.toArray r1)))))
theorem q16h {n r} (h:q16q n=some r):q16p n=some r :=
 qg7 (es:=q1ce) (hs:=qml) [q16j] Tryz.func51 rfl (by kernel_rfl) rfl (by kernel_rfl) (by kernel_rfl) ⟨⟨_,rfl,rfl⟩,trivial⟩ trivial (by kernel_rfl) h
def q16g:=entS Tryz.prog lv X0 51 [] q16e q16f (λx=>q16p x) (λ_ _ h=>qg5 h)
def q1cc:=q16g::q1ce
def q7b:=(qpl (vC cStr))
def q7c:Cod (V×List B) Bool:=z1e
def q7f (s:BA):=fS Tryz.prog lv X0 25 q7b q7c s
def q7g (s:BA):Oq Bool :=
 ((q6x s).bind λr0 =>
 (brE (r0==true)
 ((q6l s).bind λr1 =>
 (some (r1.toList==s.toList)))
 (some false)))
theorem q7e {s r} (h:q7g s=some r):q7f s=some r :=
 qg7 (es:=q1cc) (hs:=qml) [] Tryz.func25 rfl (by kernel_rfl) rfl (by kernel_rfl) (by kernel_rfl) trivial trivial (by kernel_rfl) h
def q7d:=entS Tryz.prog lv X0 25 [] q7b q7c (λx=>q7f x) (λ_ _ h=>qg5 h)
def q1an:=q7d::q1cc
def qtx:=(qpl (vC cStr))
def qty:Cod (V×List B) Bool:=z1e
def qu2 (s:BA):=fS Tryz.prog lv X0 45 qtx qty s
def qu3 (s:BA):Oq Bool :=
 ((q7f s).bind λr0 =>
 (brE ((!r0)==false)
 ((q79 s (ByteArray.mk (List.toArray [77,97,105,108,45,83,105,103,110,97,116,117,114,101]))).bind λr1 =>
 (some r1))
 (some true)))
theorem qu0 {s r} (h:qu3 s=some r):qu2 s=some r :=
 qg7 (es:=q1an) (hs:=qml) [] Tryz.func45 rfl (by kernel_rfl) rfl (by kernel_rfl) (by kernel_rfl) trivial trivial (by kernel_rfl) h
def qtz:=entS Tryz.prog lv X0 45 [] qtx qty (λx=>qu2 x) (λ_ _ h=>qg5 h)
def q1bn:=qtz::q1an
def qnm:Cod (List V) ((List BA)×Unit):=(qpj (vC (cSl qd2)) (qpl (vFn 45 qpk)))
def qnw:=sLS [0,1,7,8] (qpj (vC (cSl qd2)) (qpj (vFn 45 qpk) z1b)) qpk [] [] (by decide) (λ_=>rfl)
def qnv:=sLS [0,1,7,8,9] (qpj (vC (cSl qd2)) (qpj (vFn 45 qpk) z1c)) qpk [] [] (by decide) (λ_=>rfl)
def qnu:=sLS [4] (qpl z1j) qpk [] [] (by decide) (λ_=>rfl)
def qnt:=oOr 1 qnu (oAt 2 qnv) (λx=>(by decide:(2:Nat)≠1))
def qnq (s:LB) (t7 t8:Int):=lS Tryz.prog lv X0 81 19 (qk8 (cdF Tryz.f81) 2) qnw qnt ((s,(),t7,t8),())
def qnx (s:LB) (t7 t8:Int):Oq ((Int×Unit)⊕((LB×Unit×Int×Int×Bool)×Unit)) :=
 (brE (decide (t8<t7))
 (gdE (p0 t8)<|
 (gdE (eC qd2 s t8 [K1.str])<|
 ((qu2 (q18t (List.getD (List.getD (EC.encL qd2 s) (Int.toNat t8) []) 0 C.ne))).bind λr0 =>
 (brE r0
 (some (.inl (t8,())))
 (gL qd2 s<|
 (qnq (dL qd2 s) t7 (wI t8)))))))
 (gL qd2 s<|
 (some (.inr (((dL qd2 s),((),(t7,(t8,false)))),())))))
theorem qns {s t7 t8 r} (h:qnx s t7 t8=some r):qnq s t7 t8=some r :=
 qpn (es:=q1bn) (hs:=qml) [] (by kernel_rfl) trivial trivial (by kernel_rfl) h
def qnr:=qqh Tryz.prog lv X0 2 (qk8 (cdF Tryz.f81) 2) qnw qnt (λx=>qnq x.1.1 x.1.2.2.1 x.1.2.2.2) (λ_ _ h=>qpm h)
def qnn:Cod (V×List B) Int:=(cFstU (cPair z1j qpk))
def qny (s:LB):=fS Tryz.prog lv X0 81 qnm qnn (s,())
def qnz (s:LB):Oq Int :=
 (gL qd2 s<|
 ((qnq (dL qd2 s) (lN qd2 s:Int) 0).bind λr0 =>
 (Sum.elim (λr1=>(some r1.1))
 (λr1=>(some (-1:Int))) r0)))
theorem qnp {s r} (h:qnz s=some r):qny s=some r :=
 qg7 (es:=q1bn) (hs:=qml) [qnr] Tryz.func81 rfl (by kernel_rfl) rfl (by kernel_rfl) (by kernel_rfl) ⟨⟨_,rfl,rfl⟩,trivial⟩ trivial (by kernel_rfl) h
def qno:=entS Tryz.prog lv X0 81 [45] qnm qnn (λx=>qny x.1) (λ_ _ h=>qg5 h)
def q1bg:=qno::q1bn
def qkt:Cod (List V) ((List BA)×Unit):=(qpj (vC (cSl qd2)) (qpl (vFn 45 qpk)))
def qku:Cod (V×List B) Bool:=z1e
def qkx (s:LB):=fS Tryz.prog lv X0 47 qkt qku (s,())
def qky (s:LB):Oq Bool :=
 (gL qd2 s<|
 ((qny (dL qd2 s)).bind λr0 =>
 (some (decide (r0≥0)))))
theorem qkw {s r} (h:qky s=some r):qkx s=some r :=
 qg7 (es:=q1bg) (hs:=qml) [] Tryz.func47 rfl (by kernel_rfl) rfl (by kernel_rfl) (by kernel_rfl) trivial trivial (by kernel_rfl) h
def qkv:=entS Tryz.prog lv X0 47 [45] qkt qku (λx=>qkx x.1) (λ_ _ h=>qg5 h)
def q1ba:=qkv::q1bg
def q17a:=(qpl (vC (cSl qd2)))
def q17b:Cod (V×List B) Bool:=z1e
def q17e (l:LB):=fS Tryz.prog lv X0 26 q17a q17b l
def q17f (l:LB):Oq Bool :=
 (brE ((decide ((lN qd2 l:Int)≥1))==true)
 (brE ((decide ((lN qd2 l:Int)<=20))==true)
 (gL qd2 l<|
 ((qkx (dL qd2 l)).bind λr0 =>
 (some (!r0))))
 (some false))
 (some false))
theorem q17d {l r} (h:q17f l=some r):q17e l=some r :=
 qg7 (es:=q1ba) (hs:=qml) [] Tryz.func26 rfl (by kernel_rfl) rfl (by kernel_rfl) (by kernel_rfl) trivial trivial (by kernel_rfl) h
def q17c:=entS Tryz.prog lv X0 26 [] q17a q17b (λx=>q17e x) (λ_ _ h=>qg5 h)
def q1cf:=q17c::q1ba
def qax:=(qpl (vC (cSl qcy)))
def qay:Cod (V×List B) (Nat×(List Int)):=(cPair (vRow 0) (qpl (bRow qcy)))
def qb3 (s:(List Int)):=fS Tryz.prog lv X0 54 qax qay s
def qb4 (s:(List Int)):Oq (Nat×(List Int)) :=
 (gdE (!(List.isEmpty (EC.encL qcy s)))<|
 (gdE (((aL (EC.encL qcy s) 1)&&(dQ (lN qcy s) 1))&&(dM (lN qcy s)))<|
 (gL qcy s<|
 (some ((lN qcy s),(dL qcy s))))))
theorem qb0 {s r} (h:qb4 s=some r):qb3 s=some r:=by
 cases s with
 |nil=>exact nomatch (show (none:Oq (Nat×(List Int)))=some r from h)
 |cons x xs=>exact qg7 (es:=q1cf) (hs:=qml) [] Tryz.func54 rfl (by kernel_rfl) rfl (by kernel_rfl) (by kernel_rfl) trivial trivial (by kernel_rfl) h
theorem qb1:qb3 []=some (0,[]):=fS_of (r:=(0,[])) (by unfold Call callD;rfl)
def qaz:=entS Tryz.prog lv X0 54 [] qax qay (λx=>qb3 x) (λ_ _ h=>qg5 h)
def q1as:=qaz::q1cf
end
end Go.Proofs.YtmlcmoaonaomfaaGreatDoor
