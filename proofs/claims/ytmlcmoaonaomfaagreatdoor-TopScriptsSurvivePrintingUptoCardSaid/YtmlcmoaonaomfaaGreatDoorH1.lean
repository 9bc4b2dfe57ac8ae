/- Functions of the program as plain functions: made by program from the machine. -/
import Derived.Test.YtmlcmoaonaomfaaGreatDoorGB
namespace Go.Proofs.YtmlcmoaonaomfaaGreatDoor
open Go.RowKit
set_option maxRecDepth 100000
noncomputable section
abbrev z23:=(qqr (vC (cInt .i64)) (qqt (vC (cInt .i64))))
def q6b:=z23
abbrev z29:=(cFstU (cPair (vAgg z23) (qqs (ρ:=B))))
def q6c:Cod (V×List B) (Int×Int):=z29
def q6f (code at_:Int):=fS Tryz.prog lv X0 18 q6b q6c (code,at_)
def q6g (code at_:Int):Oq (Int×Int) :=some (code,at_)
theorem q6e {code at_ r} (h:q6g code at_=some r):q6f code at_=some r :=
 fT (es:=tab0) (hs:=[]) [] Tryz.func18 trivial trivial h
def q6d:=entZ 18 [] q6b q6c
def q1fn:=q6d::tab0
def q7c:Cod (List V) Unit:=qqs
def q7d:Cod (V×List B) (Int×Int):=z29
def q7g :=fS Tryz.prog lv X0 19 q7c q7d ()
def q7h :Oq (Int×Int) :=some (0,0)
theorem q7f {r} (h:q7h =some r):q7g =some r :=
 fT (es:=q1fn) (hs:=[]) [] Tryz.func19 trivial trivial h
def q7e:=entZ 19 [] q7c q7d
def q1fs:=q7e::q1fn
def q65:=(qqt (vAgg z23))
abbrev z25:=(cFstU (cPair (vC cBool) (qqs (ρ:=B))))
def q66:Cod (V×List B) Bool:=z25
def q69 (f_Code f_Index:Int):=fS Tryz.prog lv X0 16 q65 q66 (f_Code,f_Index)
def q6a (f_Code _f_Index:Int):Oq Bool :=some (f_Code != 0)
theorem q68 {f_Code f_Index r} (h:q6a f_Code f_Index=some r):q69 f_Code f_Index=some r :=
 fT (es:=q1fs) (hs:=[]) [] Tryz.func16 trivial trivial h
def q67:=entZ 16 [] q65 q66
def q1fm:=q67::q1fs
abbrev z2f:=(qqt (vC (cInt .u8)))
def q6h:=z2f
def q6i:Cod (V×List B) Bool:=z25
def q6l (c:Int):=fS Tryz.prog lv X0 80 q6h q6i c
abbrev z7_t (c:Int):Oq Bool :=brE (decide (c≥65)==true) (brE (decide (c<=90)==false) (brE (decide (c≥48)==true) (some (decide (c<=57))) (some false)) (some true)) (brE (decide (c≥48)==true) (some (decide (c<=57))) (some false))
def q6m (c:Int):Oq Bool :=brE (decide (c≥97)==true) (brE (decide (c<=122)==false) (z7_t c) (some true)) (z7_t c)
theorem q6k {c r} (h:q6m c=some r):q6l c=some r :=
 fT (es:=q1fm) (hs:=[]) [] Tryz.func80 trivial trivial h
def q6j:=entZ 80 [] q6h q6i
def q1fo:=q6j::q1fm
def q5l:=z2f
def q5m:Cod (V×List B) Bool:=z25
def q5p (c:Int):=fS Tryz.prog lv X0 108 q5l q5m c
def q5q (c:Int):Oq Bool :=brE ((c==32)==false) (some (c==9)) (some true)
theorem q5o {c r} (h:q5q c=some r):q5p c=some r :=
 fT (es:=q1fo) (hs:=[]) [] Tryz.func108 trivial trivial h
def q5n:=entZ 108 [] q5l q5m
def q1fk:=q5n::q1fo
def qbt:EC Int where
 enc x:=[.int .u8 x]
 dec c:=qph (c.getD 0 .ne)
 is c:=isE [.int .u8] 0 c
 enc_dec h:=qat h
 dec_enc x:=by rfl
 is_enc x:=by simp [isE,isK]
theorem enc_5 (x:Int):qbt.enc x=[.int .u8 x]:=rfl
theorem isE_5 (xs:List Int) (n:Nat):isE [.int .u8] 0 ((qbt.encL xs).getD n [])=decide (n<xs.length):=by
 by_cases h:n<xs.length
 ·simp only [EC.getD_lt _ _ h];simp [enc_5,isE,isK,h]
 ·simp only [EC.getD_ge _ _ (y7q.1 h)];simp [isE,isK,h]
theorem at_5_0 (xs:List Int) (n:Nat):qph (((qbt.encL xs).getD n []).getD 0 .ne)=(xs.getD n (qbt.dec [])):=by
 by_cases h:n<xs.length
 ·simp only [EC.getD_lt _ _ h];simp [enc_5,h,qph]
 ·simp only [EC.getD_ge _ _ (y7q.1 h)];simp [y7q.1 h,qbt,qph]
theorem lit_5 (a0:Int):([.int .u8 a0]:List C)=qbt.enc a0:=rfl
theorem apd_5 (xs:List Int) (a0:Int):qbt.encL xs++[[.int .u8 a0]]=qbt.encL (xs++[a0]):=by rw [lit_5];simp [EC.encL]
theorem len_5 (xs:List Int) (n:Nat) (h:n<xs.length):((qbt.encL xs).getD n []).length=1:=by rw [EC.getD_lt _ _ h];rfl
theorem q3u (xs:List Int):(qbt.encL xs).all (λ(el:List C)=>el.length==1)=true:=by induction xs with|nil=>rfl|cons x xs ih=>first|(simp [EC.encL,enc_5];done)|simpa [EC.encL,enc_5] using ih
theorem q1cv (xs:List Int) (n:Nat) (a0:Int):(qbt.encL xs).set n (splice ((qbt.encL xs).getD n []) 0 [.int .u8 a0])=qbt.encL (xs.set n (a0)):=by
 by_cases h:n<xs.length
 ·rw [EC.getD_lt _ _ h];simp [EC.encL,List.map_set,enc_5,splice]
 ·simp [EC.encL,List.set_eq_of_length_le,y7q.1 h]
abbrev z28:=(qqt (vC cStr))
def q6n:=z28
abbrev z2j:=(qqt (qvh (bRow qbt)))
def q6w:=sLS [3,8,9,10] (qqr (vRow 0) (qqr (vRow 0) z23)) z2j [false] [] (by decide) (λ_=>rfl)
abbrev z24:=(qqr (vC (cInt .i64)) (qqr (vC (cInt .i64)) (qqt (vC cBool))))
def q6v:=sLS [3,8,9,10,11] (qqr (vRow 0) (qqr (vRow 0) z24)) z2j [false] [] (by decide) (λ_=>rfl)
def q6u:=oAt 2 q6v
def q6r (b t8:Nat) (t9 t10:Int) (b0:List Int):=lS Tryz.prog lv X0 44 30 (qm6 (cdF Tryz.f44) 3) q6w q6u ((b,t8,t9,t10),b0)
abbrev z8 (t10:Int) (b0:List Int):=(List.getD (EC.encL qbt b0) (Int.toNat t10) [])
def q6x (b t8:Nat) (t9 t10:Int) (b0:List Int):Oq ((Nat×Nat×Int×Int×Bool)×List Int) :=brE (decide (t10<t9)) (gdE (p0 t10&&decide (t10<((t8:Nat):Int)))<|gdE (decide (Int.toNat t10<lN qbt b0)&&(List.length (z8 t10 b0)==1))<|gdE (isP [K1.int IntKind.u8] 0 (z8 t10 b0))<|brE (decide ((qph (List.getD (z8 t10 b0) 0 C.ne))≥65)==true) (brE (decide (qph (List.getD (z8 t10 b0) 0 C.ne)<=90)) (gdE (p0 t10&&decide (t10<((b:Nat):Int)))<|gdE (decide (Int.toNat t10<lN qbt b0)&&(List.length (z8 t10 b0)==1))<|gdE (EC.isL qbt (List.set (EC.encL qbt b0) (Int.toNat t10) (splice (z8 t10 b0) 0 [C.int .u8 (IntKind.wrap .u8 ((IntKind.wrap .u8 (qph (List.getD (z8 t10 b0) 0 C.ne)+97)) - 65))])))<|q6r b t8 t9 (wI t10) (EC.decL qbt (List.set (EC.encL qbt b0) (Int.toNat t10) (splice (z8 t10 b0) 0 [C.int .u8 (IntKind.wrap .u8 ((IntKind.wrap .u8 (qph (List.getD (z8 t10 b0) 0 C.ne)+97)) - 65))])))) (gL qbt b0<|q6r b t8 t9 (wI t10) (dL qbt b0))) (gL qbt b0<|q6r b t8 t9 (wI t10) (dL qbt b0))) (gL qbt b0<|some ((b,t8,t9,t10,false),dL qbt b0))
theorem q6t:E5 q6x q6r:=λh=>lT (es:=q1fk) (hs:=[]) [] trivial trivial h
def q6s:=lentZ 44 30 3 (qm6 (cdF Tryz.f44) 3) q6w q6u
def q6o:Cod (V×List B) BA:=(cFstU (cPair (vC cStr) qqs))
def q6y (s:BA):=fS Tryz.prog lv X0 44 q6n q6o s
def q6z (s:BA):Oq BA :=gdE (dM s.size&&(!(s.size==0)))<|gdE (EC.isL qbt (bytesL s))<|(q6r s.size s.size (s.size:Int) 0 (EC.decL qbt (bytesL s))).bind λr0=>(bytesOf (EC.encL qbt r0.2)).bind λr1=>some (ByteArray.mk (List.toArray r1))
theorem q6q {s r} (h:q6z s=some r):q6y s=some r :=
 fT (es:=q1fk) (hs:=[]) [q6s] Tryz.func44 ⟨⟨_,rfl,rfl⟩,trivial⟩ trivial h
def q6p:=entZ 44 [] q6n q6o
def q1fp:=q6p::q1fk
abbrev z2g:=(qqr (vC cStr) z28)
def q7i:=z2g
def q7j:Cod (V×List B) Bool:=z25
def q7m (a b:BA):=fS Tryz.prog lv X0 46 q7i q7j (a,b)
def q7n (a b:BA):Oq Bool :=brE (((a.size:Int)==(b.size:Int))==true) ((q6y a).bind λr0=>(q6y b).bind λr1=>some (r0.toList==r1.toList)) (some false)
theorem q7l {a b r} (h:q7n a b=some r):q7m a b=some r :=
 fT (es:=q1fp) (hs:=[]) [] Tryz.func46 trivial trivial h
def q7k:=entZ 46 [] q7i q7j
def q1ft:=q7k::q1fp
def q5r:=(qqt (vC (cSl qbt)))
def q61:=sLS [0,3,4] (qqr (vC (cSl qbt)) z23) qqs [] [] (by decide) (λ_=>rfl)
def q60:=sLS [0,3,4,9] (qqr (vC (cSl qbt)) z24) qqs [] [] (by decide) (λ_=>rfl)
abbrev z2b:=(vC (cInt .i64))
def q5z:=sLS [2] (qqt z2b) qqs [] [] (by decide) (λ_=>rfl)
def q5y:=oOr 1 q5z (oAt 2 q60) (λx=>(by decide:(2:Nat)≠1))
def q5v (b:List Int) (column i:Int):=lS Tryz.prog lv X0 37 45 (qm6 (cdF Tryz.f37) 3) q61 q5y ((b,column,i),())
abbrev za_t (b:List Int) (column i:Int):Oq ((Int×Unit)⊕((List Int×Int×Int×Bool)×Unit)) :=brE ((qph (List.getD (List.getD (EC.encL qbt b) (Int.toNat i) []) 0 C.ne)==13)==false) (brE (qph (List.getD (List.getD (EC.encL qbt b) (Int.toNat i) []) 0 C.ne)==10) (some (.inl (11,()))) (brE (decide (wI column>998)) (some (.inl (1,()))) (gL qbt b<|q5v (dL qbt b) (wI column) (wI i)))) (some (.inl (11,())))
def q62 (b:List Int) (column i:Int):Oq ((Int×Unit)⊕((List Int×Int×Int×Bool)×Unit)) :=brE (decide (i<(lN qbt b:Int))) (gdE (p0 i)<|gdE (eC qbt b i [K1.int IntKind.u8])<|brE ((qph (List.getD (List.getD (EC.encL qbt b) (Int.toNat i) []) 0 C.ne)==13)==true) (brE (decide (wI i<(lN qbt b:Int))==true) (gdE (p0 (wI i))<|gdE (eC qbt b (wI i) [K1.int IntKind.u8])<|brE (qph (List.getD (List.getD (EC.encL qbt b) (Int.toNat (wI i)) []) 0 C.ne)==10) (gL qbt b<|q5v (dL qbt b) 0 (wI (wI i))) (za_t b column i)) (za_t b column i)) (za_t b column i)) (gL qbt b<|some (.inr ((dL qbt b,column,i,false),())))
theorem q5x:E3 q62 q5v:=λh=>lT (es:=q1ft) (hs:=[]) [] trivial trivial h
def q5w:=lentZ 37 45 3 (qm6 (cdF Tryz.f37) 3) q61 q5y
def q5s:Cod (V×List B) Int:=(cFstU (cPair z2b qqs))
def q63 (b:List Int):=fS Tryz.prog lv X0 37 q5r q5s b
def q64 (b:List Int):Oq Int :=gL qbt b<|(q5v (dL qbt b) 0 0).bind λr0=>Sum.elim (λr1=>some r1.1) (λ_r1=>some 0) r0
theorem q5u {b r} (h:q64 b=some r):q63 b=some r :=
 fT (es:=q1ft) (hs:=[]) [q5w] Tryz.func37 ⟨⟨_,rfl,rfl⟩,trivial⟩ trivial h
def q5t:=entZ 37 [] q5r q5s
def q1fl:=q5t::q1ft
def q70:=z2f
def q71:Cod (V×List B) Bool:=z25
def q74 (c:Int):=fS Tryz.prog lv X0 79 q70 q71 c
def q75 (c:Int):Oq Bool :=(q6l c).bind λr0=>brE (r0==false) (brE ((c==45)==false) (brE ((c==95)==false) (some (c==46)) (some true)) (some true)) (some true)
theorem q73 {c r} (h:q75 c=some r):q74 c=some r :=
 fT (es:=q1fl) (hs:=[]) [] Tryz.func79 trivial trivial h
def q72:=entZ 79 [] q70 q71
def q1fr:=q72::q1fl
def q2x:Cod (List V) (BA×Unit):=(qqr (vC cStr) (qqt (vFn 79 qqs)))
def q37:=sLS [0,1,7,8] (qqr (vC cStr) (qqr (vFn 79 qqs) z23)) qqs [] [] (by decide) (λ_=>rfl)
def q36:=sLS [0,1,7,8,9] (qqr (vC cStr) (qqr (vFn 79 qqs) z24)) qqs [] [] (by decide) (λ_=>rfl)
abbrev z2k:=(qqt (vC cBool))
def q35:=sLS [4] z2k qqs [] [] (by decide) (λ_=>rfl)
def q34:=oOr 1 q35 (oAt 2 q36) (λx=>(by decide:(2:Nat)≠1))
def q31 (s:BA) (t7 t8:Int):=lS Tryz.prog lv X0 78 18 (qm6 (cdF Tryz.f78) 2) q37 q34 ((s,(),t7,t8),())
def q38 (s:BA) (t7 t8:Int):Oq ((Bool×Unit)⊕((BA×Unit×Int×Int×Bool)×Unit)) :=brE (decide (t8<t7)) (gdE (p0 t8&&decide (Int.toNat t8<s.size))<|(q74 ((UInt8.toNat (Array.getD s.data (Int.toNat t8) (0:UInt8)):Nat):Int)).bind λr0=>brE (!r0) (some (.inl (false,()))) (q31 s t7 (wI t8))) (some (.inr ((s,(),t7,t8,false),())))
theorem q33:E3 q38 q31:=λh=>lT (es:=q1fr) (hs:=[]) [] trivial trivial h
def q32:=lentZ 78 18 2 (qm6 (cdF Tryz.f78) 2) q37 q34
def q2y:Cod (V×List B) Bool:=z25
def q3b (s:BA):=fS Tryz.prog lv X0 78 q2x q2y (s,())
def q3d (s:BA):Oq Bool :=(q31 s (s.size:Int) 0).bind λr0=>Sum.elim (λr1=>some r1.1) (λ_r1=>some true) r0
theorem q30 {s r} (h:q3d s=some r):q3b s=some r :=
 fT (es:=q1fr) (hs:=[]) [q32] Tryz.func78 ⟨⟨_,rfl,rfl⟩,trivial⟩ trivial h
def q2z:=entZ 78 [79] q2x q2y
def q1fi:=q2z::q1fr
def q76:=z28
def q77:Cod (V×List B) Bool:=z25
def q7a (s:BA):=fS Tryz.prog lv X0 43 q76 q77 s
def q7b (s:BA):Oq Bool :=brE ((!(s.toList==ByteArray.toList ⟨#[]⟩))==true) (brE (decide ((s.size:Int)<=60)==true) ((q3b s).bind λr0=>some r0) (some false)) (some false)
theorem q79 {s r} (h:q7b s=some r):q7a s=some r :=
 fT (es:=q1fi) (hs:=[]) [] Tryz.func43 trivial trivial h
def q78:=entZ 43 [] q76 q77
def q1fq:=q78::q1fi
def q1ef:=z2g
def q1eg:Cod (V×List B) Bool:=z25
def q1ej (s prefix_:BA):=fS Tryz.prog lv X0 129 q1ef q1eg (s,prefix_)
def q1ek (s prefix_:BA):Oq Bool :=brE (decide ((s.size:Int)≥(prefix_.size:Int))==true) (gdE (p0 (prefix_.size:Int)&&decide ((prefix_.size:Int)<=(s.size:Int)))<|some (ByteArray.toList (ByteArray.extract s 0 (Int.toNat (prefix_.size:Int)))==prefix_.toList)) (some false)
theorem q1ei {s prefix_ r} (h:q1ek s prefix_=some r):q1ej s prefix_=some r :=
 fT (es:=q1fq) (hs:=[]) [] Tryz.func129 trivial trivial h
def q1eh:=entZ 129 [] q1ef q1eg
def q1hf:=q1eh::q1fq
def q1el:=z2g
def q1em:Cod (V×List B) Bool:=z25
def q1ep (s suffix:BA):=fS Tryz.prog lv X0 191 q1el q1em (s,suffix)
def q1eq (s suffix:BA):Oq Bool :=brE (decide ((s.size:Int)≥(suffix.size:Int))==true) (gdE (p0 (IntKind.wrap .i64 ((s.size:Int) - (suffix.size:Int)))&&decide (IntKind.wrap .i64 ((s.size:Int) - (suffix.size:Int))<=(s.size:Int)))<|some (ByteArray.toList (ByteArray.extract s (Int.toNat (IntKind.wrap .i64 ((s.size:Int) - (suffix.size:Int)))) s.size)==suffix.toList)) (some false)
theorem q1eo {s suffix r} (h:q1eq s suffix=some r):q1ep s suffix=some r :=
 fT (es:=q1hf) (hs:=[]) [] Tryz.func191 trivial trivial h
def q1en:=entZ 191 [] q1el q1em
def q1hg:=q1en::q1hf
def q1e3:=z2g
def q1e4:Cod (V×List B) Bool:=z25
def q1e7 (s prefix_:BA):=fS Tryz.prog lv X0 99 q1e3 q1e4 (s,prefix_)
def q1e8 (s prefix_:BA):Oq Bool :=(q1ej s prefix_).bind λr0=>some r0
theorem q1e6 {s prefix_ r} (h:q1e8 s prefix_=some r):q1e7 s prefix_=some r :=
 fT (es:=q1hg) (hs:=[]) [] Tryz.func99 trivial trivial h
def q1e5:=entZ 99 [] q1e3 q1e4
def q1hd:=q1e5::q1hg
def q1e9:=z2g
def q1ea:Cod (V×List B) Bool:=z25
def q1ed (s suffix:BA):=fS Tryz.prog lv X0 162 q1e9 q1ea (s,suffix)
def q1ee (s suffix:BA):Oq Bool :=(q1ep s suffix).bind λr0=>some r0
theorem q1ec {s suffix r} (h:q1ee s suffix=some r):q1ed s suffix=some r :=
 fT (es:=q1hd) (hs:=[]) [] Tryz.func162 trivial trivial h
def q1eb:=entZ 162 [] q1e9 q1ea
def q1he:=q1eb::q1hd
def qk8:=z2f
def qk9:Cod (V×List B) Bool:=z25
def qkc (c:Int):=fS Tryz.prog lv X0 106 qk8 qk9 c
def qkd (c:Int):Oq Bool :=brE (decide (c≥33)==true) (brE (decide (c<=126)==true) (some (c != 58)) (some false)) (some false)
theorem qkb {c r} (h:qkd c=some r):qkc c=some r :=
 fT (es:=q1he) (hs:=[]) [] Tryz.func106 trivial trivial h
def qka:=entZ 106 [] qk8 qk9
def q1g8:=qka::q1he
def q1y:Cod (List V) (BA×Unit):=(qqr (vC cStr) (qqt (vFn 106 qqs)))
def q28:=sLS [0,1,7,8] (qqr (vC cStr) (qqr (vFn 106 qqs) z23)) qqs [] [] (by decide) (λ_=>rfl)
def q27:=sLS [0,1,7,8,9] (qqr (vC cStr) (qqr (vFn 106 qqs) z24)) qqs [] [] (by decide) (λ_=>rfl)
def q26:=sLS [4] z2k qqs [] [] (by decide) (λ_=>rfl)
def q25:=oOr 1 q26 (oAt 2 q27) (λx=>(by decide:(2:Nat)≠1))
def q22 (s:BA) (t7 t8:Int):=lS Tryz.prog lv X0 78 18 (qm6 (cdF Tryz.f78) 2) q28 q25 ((s,(),t7,t8),())
def q29 (s:BA) (t7 t8:Int):Oq ((Bool×Unit)⊕((BA×Unit×Int×Int×Bool)×Unit)) :=brE (decide (t8<t7)) (gdE (p0 t8&&decide (Int.toNat t8<s.size))<|(qkc ((UInt8.toNat (Array.getD s.data (Int.toNat t8) (0:UInt8)):Nat):Int)).bind λr0=>brE (!r0) (some (.inl (false,()))) (q22 s t7 (wI t8))) (some (.inr ((s,(),t7,t8,false),())))
theorem q24:E3 q29 q22:=λh=>lT (es:=q1g8) (hs:=[]) [] trivial trivial h
def q23:=lentZ 78 18 2 (qm6 (cdF Tryz.f78) 2) q28 q25
def q1z:Cod (V×List B) Bool:=z25
def q2c (s:BA):=fS Tryz.prog lv X0 78 q1y q1z (s,())
def q2e (s:BA):Oq Bool :=(q22 s (s.size:Int) 0).bind λr0=>Sum.elim (λr1=>some r1.1) (λ_r1=>some true) r0
theorem q21 {s r} (h:q2e s=some r):q2c s=some r :=
 fT (es:=q1g8) (hs:=[]) [q23] Tryz.func78 ⟨⟨_,rfl,rfl⟩,trivial⟩ trivial h
def q20:=entZ 78 [106] q1y q1z
def q1fg:=q20::q1g8
def qke:=z28
def qkf:Cod (V×List B) Bool:=z25
def qki (s:BA):=fS Tryz.prog lv X0 68 qke qkf s
def qkj (s:BA):Oq Bool :=brE ((!(s.toList==ByteArray.toList ⟨#[]⟩))==true) (brE (decide ((s.size:Int)<=60)==true) ((q2c s).bind λr0=>some r0) (some false)) (some false)
theorem qkh {s r} (h:qkj s=some r):qki s=some r :=
 fT (es:=q1fg) (hs:=[]) [] Tryz.func68 trivial trivial h
def qkg:=entZ 68 [] qke qkf
def q1g7:=qkg::q1fg
def qjz:=z28
def qk0:Cod (V×List B) Bool:=z25
def qk3 (s:BA):=fS Tryz.prog lv X0 107 qjz qk0 s
def qk4 (s:BA):Oq Bool :=(canyP s ⟨#[13,10,0]⟩).bind λr0=>some r0
theorem qk2 {s r} (h:qk4 s=some r):qk3 s=some r :=
 fT (es:=q1g7) (hs:=[]) [] Tryz.func107 trivial trivial h
def qk1:=entZ 107 [] qjz qk0
def q1g6:=qk1::q1g7
def ql0:=z28
def ql1:Cod (V×List B) Bool:=z25
def ql4 (s:BA):=fS Tryz.prog lv X0 69 ql0 ql1 s
def ql5 (s:BA):Oq Bool :=(qk3 s).bind λr0=>brE ((!r0)==true) (brE ((s.toList==ByteArray.toList ⟨#[]⟩)==false) (gdE (decide ((0:Int)<=0)&&decide (Int.toNat 0<s.size))<|(q5p ((UInt8.toNat (Array.getD s.data (Int.toNat 0) (0:UInt8)):Nat):Int)).bind λr1=>brE ((!r1)==true) (gdE (p0 (IntKind.wrap .i64 ((s.size:Int) - 1))&&decide (Int.toNat (IntKind.wrap .i64 ((s.size:Int) - 1))<s.size))<|Option.bind (q5p ((UInt8.toNat (Array.getD s.data (Int.toNat (IntKind.wrap .i64 ((s.size:Int) - 1))) (0:UInt8)):Nat):Int)) λr2=>some (!r2)) (some false)) (some true)) (some false)
theorem ql3 {s r} (h:ql5 s=some r):ql4 s=some r :=
 fT (es:=q1g6) (hs:=[]) [] Tryz.func69 trivial trivial h
def ql2:=entZ 69 [] ql0 ql1
def q1ga:=ql2::q1g6
def qkl:=(qqr (vC cStr) (qqt z2b))
def qkv:=sLS [0,5,6] (qqr (vC cStr) z23) qqs [] [] (by decide) (λ_=>rfl)
def qkt:=sLS [0,5,6,32] (qqr (vC cStr) z24) qqs [] [] (by decide) (λ_=>rfl)
def qku:SC ((BA×Int×Int×Bool)×Unit):=sLS [0,5,6,12] (qqr (vC cStr) (qqr (vC (cInt .i64)) (qqr (vC (cInt .i64)) (qqt (vC cBool))))) qqs [] [] (by decide) (λ_=>rfl)
def qks:=oOrK 2 [0,5,6,12] qku (oAt 2 qkt) (λx y=>.inr (st_ne 12 (by decide:(false:Bool)≠true)))
def qkp (s:BA) (best i:Int):=lS Tryz.prog lv X0 70 35 (qm6 (cdF Tryz.f70) 3) qkv qks ((s,best,i),())
def qkw (s:BA) (best i:Int):Oq (((BA×Int×Int×Bool)×Unit)⊕((BA×Int×Int×Bool)×Unit)) :=brE (decide (i<(s.size:Int))) (gdE (p0 i&&decide (Int.toNat i<s.size))<|(q5p ((UInt8.toNat (Array.getD s.data (Int.toNat i) (0:UInt8)):Nat):Int)).bind λr0=>brE ((!r0)==false) (gdE (p0 (IntKind.wrap .i64 (i - 1))&&decide (Int.toNat (IntKind.wrap .i64 (i - 1))<s.size))<|Option.bind (q5p ((UInt8.toNat (Array.getD s.data (Int.toNat (IntKind.wrap .i64 (i - 1))) (0:UInt8)):Nat):Int)) λr1=>brE r1 (qkp s best (wI i)) (brE (decide (best>0)==true) (brE (decide (i>78)) (some (.inr ((s,best,i,true),()))) (qkp s i (wI i))) (qkp s i (wI i)))) (qkp s best (wI i))) (some (.inl ((s,best,i,false),())))
theorem qkr:E3 qkw qkp:=λh=>lT (es:=q1ga) (hs:=[]) [] trivial trivial h
def qkq:=lentZ 70 35 3 (qm6 (cdF Tryz.f70) 3) qkv qks
def qkm:Cod (V×List B) Int:=(cFstU (cPair z2b qqs))
def qkx (s:BA) (from_:Int):=fS Tryz.prog lv X0 70 qkl qkm (s,from_)
def qky (s:BA) (from_:Int):Oq Int :=(qkp s 0 (ite (true=true) (ite (from_<1) 1 from_) (ite (1<from_) 1 from_))).bind λr0=>Sum.elim (λr1=>some r1.1.2.1) (λr1=>some r1.1.2.1) r0
theorem qko {s from_ r} (h:qky s from_=some r):qkx s from_=some r :=
 fT (es:=q1ga) (hs:=[]) [qkq] Tryz.func70 ⟨⟨_,rfl,rfl⟩,trivial⟩ trivial h
def qkn:=entZ 70 [] qkl qkm
def q1g9:=qkn::q1ga
def qby:EC BA where
 enc x:=[.str x]
 dec c:=q1e1 (c.getD 0 .ne)
 is c:=isE [.str] 0 c
 enc_dec h:=qat h
 dec_enc x:=by rfl
 is_enc x:=by simp [isE,isK]
theorem enc_9 (x:BA):qby.enc x=[.str x]:=rfl
theorem q5c (xs:List BA) (n:Nat):q1e1 (((qby.encL xs).getD n []).getD 0 .ne)=(xs.getD n (qby.dec [])):=by
 by_cases h:n<xs.length
 ·simp only [EC.getD_lt _ _ h];simp [enc_9,h,q1e1]
 ·simp only [EC.getD_ge _ _ (y7q.1 h)];simp [y7q.1 h,qby,q1e1]
theorem lit_9 (a0:BA):([.str a0]:List C)=qby.enc a0:=rfl
theorem q49 (xs:List BA) (a0:BA):qby.encL xs++[[.str a0]]=qby.encL (xs++[a0]):=by rw [lit_9];simp [EC.encL]
theorem len_9 (xs:List BA) (n:Nat) (h:n<xs.length):((qby.encL xs).getD n []).length=1:=by rw [EC.getD_lt _ _ h];rfl
theorem q3w (xs:List BA):(qby.encL xs).all (λ(el:List C)=>el.length==1)=true:=by induction xs with|nil=>rfl|cons x xs ih=>first|(simp [EC.encL,enc_9];done)|simpa [EC.encL,enc_9] using ih
def qjc:=z2g
abbrev z27:=(qqr (qvh (bBox z23)) (qqt (qvh (bRow qby))))
def qju:=sLS [5,6,7,8] (qqr (vPtr 0 0) (qqr (vC cStr) (qqr z2b (qqt (vRow 1))))) z27 [false,false] [] (by decide) (λ_=>rfl)
def qjs:=sLS [5,6,8,9,41] (qqr (vPtr 0 0) (qqr (vC cStr) (qqr (vRow 1) (qqr z2b z2k)))) z27 [false,false] [] (by decide) (λ_=>rfl)
def qjt:SC ((Unit×BA×Int×Nat×Bool)×(Int×Int)×List BA):=sLS [5,6,7,8,36] (qqr (vPtr 0 0) (qqr (vC cStr) (qqr (vC (cInt .i64)) (qqr (vRow 1) (qqt (vC cBool)))))) (qqr (qvh (bBox (qqr (vC (cInt .i64)) (qqt (vC (cInt .i64)))))) (qqt (qvh (bRow qby)))) [false,false] [] (by decide) (λ_=>rfl)
def qjr:=oOrK 3 [5,6,7,8,36] qjt (oAt 3 qjs) (λx y=>.inr (st_ne 7 (by decide:(false:Bool)≠true)))
def qjo (rest:BA) (from_:Int) (out:Nat) (b0 b0_1:Int) (b1:LB):=lS Tryz.prog lv X0 36 70 (qm6 (cdF Tryz.f36) 9) qju qjr (((),rest,from_,out),(b0,b0_1),b1)
def qjv (rest:BA) (from_:Int) (out:Nat) (b0 b0_1:Int) (b1:LB):Oq (((Unit×BA×Int×Nat×Bool)×(Int×Int)×LB)⊕((Unit×BA×Nat×Int×Bool)×(Int×Int)×LB)) :=brE (decide ((rest.size:Int)>78)) ((qkx rest from_).bind λr0=>brE (r0==0) (gL qby b1<|some (.inr (((),rest,out,r0,true),(b0,b0_1),dL qby b1))) (gdE (p0 r0&&decide (r0<=(rest.size:Int)))<|gdE (((aL [[C.str (ByteArray.extract rest 0 (Int.toNat r0))]] 1&&aL (EC.encL qby b1) 1)&&dQ (out+List.length [[C.str (ByteArray.extract rest 0 (Int.toNat r0))]]) 16)&&decide ((out+List.length [[C.str (ByteArray.extract rest 0 (Int.toNat r0))]])<=9223372036854775807))<|gdE (p0 r0&&decide (r0<=(rest.size:Int)))<|gdE (EC.isL qby (EC.encL qby b1++[[C.str (ByteArray.extract rest 0 (Int.toNat r0))]]))<|qjo (ByteArray.extract rest (Int.toNat r0) rest.size) 0 (out+List.length [[C.str (ByteArray.extract rest 0 (Int.toNat r0))]]) b0 b0_1 (EC.decL qby (EC.encL qby b1++[[C.str (ByteArray.extract rest 0 (Int.toNat r0))]])))) (gL qby b1<|some (.inl (((),rest,from_,out,false),(b0,b0_1),dL qby b1)))
theorem qjq:E6 qjv qjo:=λh=>lT (es:=q1g9) (hs:=[]) [] trivial trivial h
def qjp:=lentZ 36 70 9 (qm6 (cdF Tryz.f36) 9) qju qjr
def qjm:=sLS [5,8,55,56,57] (qqr (vPtr 0 0) (qqr (vRow 1) (qqr (vRow 1) z23))) z27 [false,false] [] (by decide) (λ_=>rfl)
def qjl:=sLS [5,8,55,56,57,58] (qqr (vPtr 0 0) (qqr (vRow 1) (qqr (vRow 1) z24))) z27 [false,false] [] (by decide) (λ_=>rfl)
abbrev z2c:=(qqt (qvh (bBox z23)))
def qjk:=sLS [4,5] (qqr (vRow 0) (qqt (vPtr 1 0))) (qqr (qvh (bRow qby)) z2c) [false,false] [] (by decide) (λ_=>rfl)
def qjj:=oOr 1 qjk (oAt 5 qjl) (λx=>(by decide:(5:Nat)≠1))
def qjg (out t55:Nat) (t56 t57:Int) (b0 b0_1:Int) (b1:LB):=lS Tryz.prog lv X0 36 70 (qm6 (cdF Tryz.f36) 16) qjm qjj (((),out,t55,t56,t57),(b0,b0_1),b1)
def qjn (out t55:Nat) (t56 t57:Int) (b0 b0_1:Int) (b1:LB):Oq (((Nat×Unit)×LB×Int×Int)⊕((Unit×Nat×Nat×Int×Int×Bool)×(Int×Int)×LB)) :=brE (decide (t57<t56)) (gdE (p0 t57&&decide (t57<((t55:Nat):Int)))<|gdE (decide (Int.toNat t57<lN qby b1)&&(List.length (List.getD (EC.encL qby b1) (Int.toNat t57) [])==1))<|gdE (isP [K1.str] 0 (List.getD (EC.encL qby b1) (Int.toNat t57) []))<|brE (decide (((ByteArray.size (q1e1 (List.getD (List.getD (EC.encL qby b1) (Int.toNat t57) []) 0 C.ne)):Nat):Int)>998)) ((q6f 1 t57).bind λr0=>some (.inl ((0,()),EC.decL qby [],r0))) (gL qby b1<|qjg out t55 t56 (wI t57) b0 b0_1 (dL qby b1))) (gL qby b1<|some (.inr (((),out,t55,t56,t57,false),(b0,b0_1),dL qby b1)))
theorem qji:E7 qjn qjg:=λh=>lT (es:=q1g9) (hs:=[]) [] trivial trivial h
def qjh:=lentZ 36 70 16 (qm6 (cdF Tryz.f36) 16) qjm qjj
abbrev z2i:=(vTup (qqr (vRow 0) (qqt (vAgg z23))))
def qjd:Cod (V×List B) ((Nat×Int×Int)×List BA):=(cPair z2i (qqt (bRow qby)))
def qjw (n v:BA):=fS Tryz.prog lv X0 36 qjc qjd (n,v)
def qjx (n v:BA):Oq ((Nat×Int×Int)×LB) :=(qki n).bind λr0=>brE (!r0) ((q6f 10 (-1)).bind λr1=>some ((0,r1),EC.decL qby [])) (brE (decide ((v.size:Int)>4000)) ((q6f 1 (-1)).bind λr1=>some ((0,r1),EC.decL qby [])) ((ql4 v).bind λr1=>brE (!r1) ((q6f 11 (-1)).bind λr2=>some ((0,r2),EC.decL qby [])) (brE (decide ((((n.size+ByteArray.size ⟨#[58,32]⟩):Nat):Int)>IntKind.max IntKind.i64)) none (brE (decide ((((ByteArray.size (n++⟨#[58,32]⟩)+v.size):Nat):Int)>IntKind.max IntKind.i64)) none ((qjo ((n++⟨#[58,32]⟩)++v) (IntKind.wrap .i64 ((n.size:Int)+2)) 0 0 0 (EC.decL qby [])).bind λr2=>Sum.elim (λr3=>gdE (((aL [[C.str r3.1.2.1]] 1&&aL (EC.encL qby r3.2.2) 1)&&dQ (r3.1.2.2.2.1+List.length [[C.str r3.1.2.1]]) 16)&&dM (r3.1.2.2.2.1+List.length [[C.str r3.1.2.1]]))<|gdE (EC.isL qby (EC.encL qby r3.2.2++[[C.str r3.1.2.1]]))<|(qjg (r3.1.2.2.2.1+List.length [[C.str r3.1.2.1]]) (r3.1.2.2.2.1+List.length [[C.str r3.1.2.1]]) (((r3.1.2.2.2.1+List.length [[C.str r3.1.2.1]]):Nat):Int) 0 r3.2.1.1 r3.2.1.2 (EC.decL qby (EC.encL qby r3.2.2++[[C.str r3.1.2.1]]))).bind λr4=>Sum.elim (λr5=>gdE (EC.isL qby (EC.encL qby r5.2.1))<|some ((r5.1.1,r5.2.2),dL qby r5.2.1)) (λr5=>Option.bind q7g λr6=>gL qby r5.2.2<|some ((r5.1.2.1,r6),dL qby r5.2.2)) r4) (λr3=>gdE (((aL [[C.str r3.1.2.1]] 1&&aL (EC.encL qby r3.2.2) 1)&&dQ (r3.1.2.2.1+List.length [[C.str r3.1.2.1]]) 16)&&dM (r3.1.2.2.1+List.length [[C.str r3.1.2.1]]))<|gdE (EC.isL qby (EC.encL qby r3.2.2++[[C.str r3.1.2.1]]))<|(qjg (r3.1.2.2.1+List.length [[C.str r3.1.2.1]]) (r3.1.2.2.1+List.length [[C.str r3.1.2.1]]) (((r3.1.2.2.1+List.length [[C.str r3.1.2.1]]):Nat):Int) 0 r3.2.1.1 r3.2.1.2 (EC.decL qby (EC.encL qby r3.2.2++[[C.str r3.1.2.1]]))).bind λr4=>Sum.elim (λr5=>gdE (EC.isL qby (EC.encL qby r5.2.1))<|some ((r5.1.1,r5.2.2),dL qby r5.2.1)) (λr5=>Option.bind q7g λr6=>gL qby r5.2.2<|some ((r5.1.2.1,r6),dL qby r5.2.2)) r4) r2)))))
theorem qjf {n v r} (h:qjx n v=some r):qjw n v=some r :=
 fT (es:=q1g9) (hs:=[]) [qjp,qjh] Tryz.func36 ⟨⟨_,rfl,rfl⟩,⟨_,rfl,rfl⟩,trivial⟩ trivial h
def qje:=entZ 36 [] qjc qjd
def q1g5:=qje::q1g9
structure S71 where
 Name:BA
 Value:BA
abbrev L71:=List S71
def qbv:EC S71 where
 enc x:=[.str x.Name,.str x.Value]
 dec c:=⟨q1e1 (c.getD 0 .ne),q1e1 (c.getD 1 .ne)⟩
 is c:=isE [.str,.str] 0 c
 enc_dec h:=qat h
 dec_enc x:=by rfl
 is_enc x:=by simp [isE,isK]
theorem enc_71 (x:S71):qbv.enc x=[.str x.Name,.str x.Value]:=rfl
theorem isE_71 (xs:List S71) (n:Nat):isE [.str,.str] 0 ((qbv.encL xs).getD n [])=decide (n<xs.length):=by
 by_cases h:n<xs.length
 ·simp only [EC.getD_lt _ _ h];simp [enc_71,isE,isK,h]
 ·simp only [EC.getD_ge _ _ (y7q.1 h)];simp [isE,isK,h]
theorem q55 (xs:List S71) (n:Nat):q1e1 (((qbv.encL xs).getD n []).getD 0 .ne)=(xs.getD n (qbv.dec [])).Name:=by
 by_cases h:n<xs.length
 ·simp only [EC.getD_lt _ _ h];simp [enc_71,h,q1e1]
 ·simp only [EC.getD_ge _ _ (y7q.1 h)];simp [y7q.1 h,qbv,q1e1]
theorem q56 (xs:List S71) (n:Nat):q1e1 (((qbv.encL xs).getD n []).getD 1 .ne)=(xs.getD n (qbv.dec [])).Value:=by
 by_cases h:n<xs.length
 ·simp only [EC.getD_lt _ _ h];simp [enc_71,h,q1e1]
 ·simp only [EC.getD_ge _ _ (y7q.1 h)];simp [y7q.1 h,qbv,q1e1]
abbrev z2d:=(vC (cSl qbv))
def qn7:=(qqt z2d)
def qnh:=sLS [2,11,12,13] (qqr (vPtr 0 0) (qqr z2d z23)) z2c [false] [] (by decide) (λ_=>rfl)
def qng:=sLS [2,11,12,13,14] (qqr (vPtr 0 0) (qqr z2d z24)) z2c [false] [] (by decide) (λ_=>rfl)
def qnf:=sLS [2] (qqt (vPtr 0 0)) z2c [false] [] (by decide) (λ_=>rfl)
def qne:=oOr 1 qnf (oAt 2 qng) (λx=>(by decide:(2:Nat)≠1))
def qnb (t11:L71) (t12 t13:Int) (b0 b0_1:Int):=lS Tryz.prog lv X0 20 34 (qm6 (cdF Tryz.f20) 4) qnh qne (((),t11,t12,t13),b0,b0_1)
def qni (t11:L71) (t12 t13:Int) (b0 b0_1:Int):Oq ((Unit×Int×Int)⊕((Unit×L71×Int×Int×Bool)×Int×Int)) :=brE (decide (t13<t12)) (gdE (p0 t13)<|gdE (eC qbv t11 t13 [K1.str,K1.str])<|(qjw (q1e1 (List.getD (List.getD (EC.encL qbv t11) (Int.toNat t13) []) 0 C.ne)) (q1e1 (List.getD (List.getD (EC.encL qbv t11) (Int.toNat t13) []) 1 C.ne))).bind λr0=>(q69 r0.1.2.1 r0.1.2.2).bind λr1=>brE r1 ((q6f r0.1.2.1 t13).bind λr2=>some (.inl ((),r2))) (gL qbv t11<|qnb (dL qbv t11) t12 (wI t13) b0 b0_1)) (gL qbv t11<|some (.inr (((),dL qbv t11,t12,t13,false),b0,b0_1)))
theorem qnd:E5 qni qnb:=λh=>lT (es:=q1g5) (hs:=[]) [] trivial trivial h
def qnc:=lentZ 20 34 4 (qm6 (cdF Tryz.f20) 4) qnh qne
def qn8:Cod (V×List B) (Int×Int):=z29
def qnj (l:L71):=fS Tryz.prog lv X0 20 qn7 qn8 l
def qnk (l:L71):Oq (Int×Int) :=brE (decide ((lN qbv l:Int)>60)) ((q6f 2 (-1)).bind λr0=>some r0) (gL qbv l<|(qnb (dL qbv l) (lN qbv l:Int) 0 0 0).bind λr0=>Sum.elim (λr1=>some r1.2) (λ_r1=>Option.bind q7g λr2=>some r2) r0)
theorem qna {l r} (h:qnk l=some r):qnj l=some r :=
 fT (es:=q1g5) (hs:=[]) [qnc] Tryz.func20 ⟨⟨_,rfl,rfl⟩,trivial⟩ trivial h
def qn9:=entZ 20 [] qn7 qn8
def q1gd:=qn9::q1g5
def qnl:=z28
def qnm:Cod (V×List B) Bool:=z25
def qnp (s:BA):=fS Tryz.prog lv X0 194 qnl qnm s
def qnq (s:BA):Oq Bool :=(qjw s ⟨#[]⟩).bind λr0=>(q69 r0.1.2.1 r0.1.2.2).bind λr1=>some (!r1)
theorem qno {s r} (h:qnq s=some r):qnp s=some r :=
 fT (es:=q1gd) (hs:=[]) [] Tryz.func194 trivial trivial h
def qnn:=entZ 194 [] qnl qnm
def q1ge:=qnn::q1gd
def qnr:=(qqr z2d z28)
def qns:Cod (V×List B) (Int×Int):=z29
def qnv (l:L71) (n:BA):=fS Tryz.prog lv X0 166 qnr qns (l,n)
def qnw (l:L71) (n:BA):Oq (Int×Int) :=gL qbv l<|(qnj (dL qbv l)).bind λr0=>(q69 r0.1 r0.2).bind λr1=>brE r1 (some r0) ((qnp n).bind λr2=>brE (!r2) ((q6f 10 (-3)).bind λr3=>some r3) (Option.bind q7g λr3=>some r3))
theorem qnu {l n r} (h:qnw l n=some r):qnv l n=some r :=
 fT (es:=q1ge) (hs:=[]) [] Tryz.func166 trivial trivial h
def qnt:=entZ 166 [] qnr qns
def q1gf:=qnt::q1ge
def qmu:=(qqr z2d z28)
def qn3:=sLS [1,5,7,16,17,18] (qqr (vC cStr) (qqr (vPtr 0 0) (qqr (vRow 1) (qqr z2d z23)))) z27 [false,false] [] (by decide) (λ_=>rfl)
def qn2:=sLS [1,5,7,16,17,18,19] (qqr (vC cStr) (qqr (vPtr 0 0) (qqr (vRow 1) (qqr z2d z24)))) z27 [false,false] [] (by decide) (λ_=>rfl)
def qn1:=oAt 2 qn2
def qmy (n:BA) (out:Nat) (t16:L71) (t17 t18:Int) (b0 b0_1:Int) (b1:LB):=lS Tryz.prog lv X0 146 34 (qm6 (cdF Tryz.f146) 6) qn3 qn1 ((n,(),out,t16,t17,t18),(b0,b0_1),b1)
def qn4 (n:BA) (out:Nat) (t16:L71) (t17 t18:Int) (b0 b0_1:Int) (b1:LB):Oq ((BA×Unit×Nat×L71×Int×Int×Bool)×(Int×Int)×LB) :=brE (decide (t18<t17)) (gdE (p0 t18)<|gdE (eC qbv t16 t18 [K1.str,K1.str])<|(q7m (q1e1 (List.getD (List.getD (EC.encL qbv t16) (Int.toNat t18) []) 0 C.ne)) n).bind λr0=>brE r0 (gdE (((aL [[C.str (q1e1 (List.getD (List.getD (EC.encL qbv t16) (Int.toNat t18) []) 1 C.ne))]] 1&&aL (EC.encL qby b1) 1)&&dQ (out+List.length [[C.str (q1e1 (List.getD (List.getD (EC.encL qbv t16) (Int.toNat t18) []) 1 C.ne))]]) 16)&&decide ((out+List.length [[C.str (q1e1 (List.getD (List.getD (EC.encL qbv t16) (Int.toNat t18) []) 1 C.ne))]])<=9223372036854775807))<|gL qbv t16<|gdE (EC.isL qby (EC.encL qby b1++[[C.str (q1e1 (List.getD (List.getD (EC.encL qbv t16) (Int.toNat t18) []) 1 C.ne))]]))<|qmy n (out+List.length [[C.str (q1e1 (List.getD (List.getD (EC.encL qbv t16) (Int.toNat t18) []) 1 C.ne))]]) (dL qbv t16) t17 (wI t18) b0 b0_1 (EC.decL qby (EC.encL qby b1++[[C.str (q1e1 (List.getD (List.getD (EC.encL qbv t16) (Int.toNat t18) []) 1 C.ne))]]))) (gL qbv t16<|gL qby b1<|qmy n out (dL qbv t16) t17 (wI t18) b0 b0_1 (dL qby b1))) (gL qbv t16<|gL qby b1<|some ((n,(),out,dL qbv t16,t17,t18,false),(b0,b0_1),dL qby b1))
theorem qn0:E8 qn4 qmy:=λh=>lT (es:=q1gf) (hs:=[]) [] trivial trivial h
def qmz:=lentZ 146 34 6 (qm6 (cdF Tryz.f146) 6) qn3 qn1
def qmv:Cod (V×List B) ((Nat×Int×Int)×List BA):=(cPair z2i (qqt (bRow qby)))
def qn5 (l:L71) (n:BA):=fS Tryz.prog lv X0 146 qmu qmv (l,n)
def qn6 (l:L71) (n:BA):Oq ((Nat×Int×Int)×LB) :=gL qbv l<|(qnv (dL qbv l) n).bind λr0=>(q69 r0.1 r0.2).bind λr1=>brE r1 (some ((0,r0),EC.decL qby [])) (gL qbv l<|(qmy n 0 (dL qbv l) (lN qbv l:Int) 0 0 0 (EC.decL qby [])).bind λr2=>Option.bind q7g λr3=>gL qby r2.2.2<|some ((r2.1.2.2.1,r3),dL qby r2.2.2))
theorem qmx {l n r} (h:qn6 l n=some r):qn5 l n=some r :=
 fT (es:=q1gf) (hs:=[]) [qmz] Tryz.func146 ⟨⟨_,rfl,rfl⟩,trivial⟩ trivial h
def qmw:=entZ 146 [] qmu qmv
def q1gc:=qmw::q1gf
abbrev z26:=(qqr (vC (cSl qbv)) (qqt (vC (cSl qbt))))
def qtq:=(qqt (vAgg z26))
abbrev z2h:=(qqr (qvh (bBox z26)) (qqr (qvh (bRow qbt)) (qqt (qvh (bRow qby)))))
def qu6:=sLS [1,3,11,12,13,25,26,27] (qqr (vPtr 0 0) (qqr (vRow 1) (qqr z2d (qqr z2b (qqr z2b (qqr (vRow 2) z23)))))) z2h [false,false,false] [] (by decide) (λ_=>rfl)
def qu5:=sLS [1,3,11,12,13,25,26,27,28] (qqr (vPtr 0 0) (qqr (vRow 1) (qqr z2d (qqr z2b (qqr z2b (qqr (vRow 2) z24)))))) z2h [false,false,false] [] (by decide) (λ_=>rfl)
def qu4:=oAt 4 qu5
def qu1 (out:Nat) (t11:L71) (t12 t13:Int) (t25:Nat) (t26 t27:Int) (b0:L71) (b0_1:List Int) (b1:List Int) (b2:LB):=lS Tryz.prog lv X0 21 44 (qm6 (cdF Tryz.f21) 7) qu6 qu4 (((),out,t11,t12,t13,t25,t26,t27),(b0,b0_1),b1,b2)
def qu7 (out:Nat) (t11:L71) (t12 t13:Int) (t25:Nat) (t26 t27:Int) (b0:L71) (b0_1:List Int) (b1:List Int) (b2:LB):Oq ((Unit×Nat×L71×Int×Int×Nat×Int×Int×Bool)×(L71×List Int)×List Int×LB) :=brE (decide (t27<t26)) (gdE (p0 t27&&decide (t27<((t25:Nat):Int)))<|gdE (decide (Int.toNat t27<lN qby b2)&&(List.length (List.getD (EC.encL qby b2) (Int.toNat t27) [])==1))<|gdE (isP [K1.str] 0 (List.getD (EC.encL qby b2) (Int.toNat t27) []))<|gdE (((aL (List.map (λ(b:UInt8)=>[byteC b]) (Array.toList (ByteArray.data (q1e1 (List.getD (List.getD (EC.encL qby b2) (Int.toNat t27) []) 0 C.ne))))) 1&&aL (EC.encL qbt b1) 1)&&dQ (out+List.length (List.map (λ(b:UInt8)=>[byteC b]) (Array.toList (ByteArray.data (q1e1 (List.getD (List.getD (EC.encL qby b2) (Int.toNat t27) []) 0 C.ne)))))) 1)&&decide ((out+List.length (List.map (λ(b:UInt8)=>[byteC b]) (Array.toList (ByteArray.data (q1e1 (List.getD (List.getD (EC.encL qby b2) (Int.toNat t27) []) 0 C.ne))))))<=9223372036854775807))<|gdE (((aL [[C.int .u8 13],[C.int .u8 10]] 1&&aL (EC.encL qbt b1++List.map (λ(b:UInt8)=>[byteC b]) (Array.toList (ByteArray.data (q1e1 (List.getD (List.getD (EC.encL qby b2) (Int.toNat t27) []) 0 C.ne))))) 1)&&dQ ((out+List.length (List.map (λ(b:UInt8)=>[byteC b]) (Array.toList (ByteArray.data (q1e1 (List.getD (List.getD (EC.encL qby b2) (Int.toNat t27) []) 0 C.ne))))))+List.length [[C.int .u8 13],[C.int .u8 10]]) 1)&&decide (((out+List.length (List.map (λ(b:UInt8)=>[byteC b]) (Array.toList (ByteArray.data (q1e1 (List.getD (List.getD (EC.encL qby b2) (Int.toNat t27) []) 0 C.ne))))))+List.length [[C.int .u8 13],[C.int .u8 10]])<=9223372036854775807))<|gL qbv t11<|gL qbv b0<|gL qbt b0_1<|gdE (EC.isL qbt ((EC.encL qbt b1++List.map (λ(b:UInt8)=>[byteC b]) (Array.toList (ByteArray.data (q1e1 (List.getD (List.getD (EC.encL qby b2) (Int.toNat t27) []) 0 C.ne)))))++[[C.int .u8 13],[C.int .u8 10]]))<|gL qby b2<|qu1 ((out+List.length (List.map (λ(b:UInt8)=>[byteC b]) (Array.toList (ByteArray.data (q1e1 (List.getD (List.getD (EC.encL qby b2) (Int.toNat t27) []) 0 C.ne))))))+List.length [[C.int .u8 13],[C.int .u8 10]]) (dL qbv t11) t12 t13 t25 t26 (wI t27) (dL qbv b0) (dL qbt b0_1) (EC.decL qbt ((EC.encL qbt b1++List.map (λ(b:UInt8)=>[byteC b]) (Array.toList (ByteArray.data (q1e1 (List.getD (List.getD (EC.encL qby b2) (Int.toNat t27) []) 0 C.ne)))))++[[C.int .u8 13],[C.int .u8 10]])) (dL qby b2)) (gL qbv t11<|gL qbv b0<|gL qbt b0_1<|gL qbt b1<|gL qby b2<|some (((),out,dL qbv t11,t12,t13,t25,t26,t27,false),(dL qbv b0,(dL qbt b0_1)),dL qbt b1,dL qby b2))
theorem qu3:E11 qu7 qu1:=λh=>lT (es:=q1gc) (hs:=[]) [] trivial trivial h
def qu2:=lentZ 21 44 7 (qm6 (cdF Tryz.f21) 7) qu6 qu4
def qtz:=sLS [1,3,11,12,13] (qqr (vPtr 0 0) (qqr (vRow 1) (qqr z2d z23))) (qqr (qvh (bBox z26)) z2j) [false,false] [] (by decide) (λ_=>rfl)
def qty:=sLS [1,3,11,12,13,14] (qqr (vPtr 0 0) (qqr (vRow 1) (qqr z2d z24))) (qqr (qvh (bBox z26)) z2j) [false,false] [] (by decide) (λ_=>rfl)
def qtx:=oAt 2 qty
def qtu (out:Nat) (t11:L71) (t12 t13:Int) (b0:L71) (b0_1:List Int) (b1:List Int):=lS Tryz.prog lv X0 21 44 (qm6 (cdF Tryz.f21) 3) qtz qtx (((),out,t11,t12,t13),(b0,b0_1),b1)
def qu0 (out:Nat) (t11:L71) (t12 t13:Int) (b0:L71) (b0_1:List Int) (b1:List Int):Oq ((Unit×Nat×L71×Int×Int×Bool)×(L71×List Int)×List Int) :=brE (decide (t13<t12)) (gdE (p0 t13)<|gdE (eC qbv t11 t13 [K1.str,K1.str])<|(qjw (q1e1 (List.getD (List.getD (EC.encL qbv t11) (Int.toNat t13) []) 0 C.ne)) (q1e1 (List.getD (List.getD (EC.encL qbv t11) (Int.toNat t13) []) 1 C.ne))).bind λr0=>gL qbv t11<|gL qbv b0<|gL qbt b0_1<|gL qbt b1<|gL qby r0.2<|(qu1 out (dL qbv t11) t12 t13 r0.1.1 ((r0.1.1:Nat):Int) 0 (dL qbv b0) (dL qbt b0_1) (dL qbt b1) (dL qby r0.2)).bind λr1=>gL qbv r1.1.2.2.1<|gL qbv r1.2.1.1<|gL qbt r1.2.1.2<|gL qbt r1.2.2.1<|qtu r1.1.2.1 (dL qbv r1.1.2.2.1) r1.1.2.2.2.1 (wI r1.1.2.2.2.2.1) (dL qbv r1.2.1.1) (dL qbt r1.2.1.2) (dL qbt r1.2.2.1)) (gL qbv t11<|gL qbv b0<|gL qbt b0_1<|gL qbt b1<|some (((),out,dL qbv t11,t12,t13,false),(dL qbv b0,(dL qbt b0_1)),dL qbt b1))
theorem qtw:E7 qu0 qtu:=λh=>lT (es:=q1gc) (hs:=[]) [qu2] ⟨⟨_,rfl,rfl⟩,trivial⟩ trivial h
def qtv:=lentZ 21 44 3 (qm6 (cdF Tryz.f21) 3) qtz qtx
def qtr:Cod (V×List B) (Nat×List Int):=(cPair (vRow 0) (qqt (bRow qbt)))
def qu8 (qsp:L71) (qsl:List Int):=fS Tryz.prog lv X0 21 qtq qtr (qsp,qsl)
def qu9 (qsp:L71) (qsl:List Int):Oq (Nat×List Int) :=gL qbv qsp<|gL qbv qsp<|gL qbt qsl<|(qtu 0 (dL qbv qsp) (lN qbv qsp:Int) 0 (dL qbv qsp) (dL qbt qsl) (EC.decL qbt [])).bind λr0=>gdE (((aL [[C.int .u8 13],[C.int .u8 10]] 1&&aL (EC.encL qbt r0.2.2) 1)&&dQ (r0.1.2.1+List.length [[C.int .u8 13],[C.int .u8 10]]) 1)&&decide ((r0.1.2.1+List.length [[C.int .u8 13],[C.int .u8 10]])<=9223372036854775807))<|gdE (((aL (EC.encL qbt r0.2.1.2) 1&&aL (EC.encL qbt r0.2.2++[[C.int .u8 13],[C.int .u8 10]]) 1)&&dQ ((r0.1.2.1+List.length [[C.int .u8 13],[C.int .u8 10]])+lN qbt r0.2.1.2) 1)&&decide (((r0.1.2.1+List.length [[C.int .u8 13],[C.int .u8 10]])+lN qbt r0.2.1.2)<=9223372036854775807))<|gdE (EC.isL qbt ((EC.encL qbt r0.2.2++[[C.int .u8 13],[C.int .u8 10]])++EC.encL qbt r0.2.1.2))<|some (((r0.1.2.1+List.length [[C.int .u8 13],[C.int .u8 10]])+lN qbt r0.2.1.2),EC.decL qbt ((EC.encL qbt r0.2.2++[[C.int .u8 13],[C.int .u8 10]])++EC.encL qbt r0.2.1.2))
theorem qtt {qsp qsl r} (h:qu9 qsp qsl=some r):qu8 qsp qsl=some r :=
 fT (es:=q1gc) (hs:=[]) [qtv] Tryz.func21 ⟨⟨_,rfl,rfl⟩,trivial⟩ trivial h
def qts:=entZ 21 [] qtq qtr
def q1gk:=qts::q1gc
def qtk:=(qqt (vC (cSl qbt)))
def qtl:Cod (V×List B) (Int×Int):=z29
def qto (b:List Int):=fS Tryz.prog lv X0 22 qtk qtl b
def qtp (b:List Int):Oq (Int×Int) :=gL qbt b<|(q63 (dL qbt b)).bind λr0=>brE (r0==11) ((q6f 11 (-5)).bind λr1=>some r1) (brE (r0==1) ((q6f 1 (-6)).bind λr1=>some r1) (Option.bind q7g λr1=>some r1))
theorem qtn {b r} (h:qtp b=some r):qto b=some r :=
 fT (es:=q1gk) (hs:=[]) [] Tryz.func22 trivial trivial h
def qtm:=entZ 22 [] qtk qtl
def q1gj:=qtm::q1gk
def qt8:=(qqt (vAgg z26))
def qt9:Cod (V×List B) (Int×Int):=z29
def qtc (qsp:L71) (qsl:List Int):=fS Tryz.prog lv X0 6 qt8 qt9 (qsp,qsl)
def qtd (qsp:L71) (qsl:List Int):Oq (Int×Int) :=gL qbv qsp<|(qnj (dL qbv qsp)).bind λr0=>(q69 r0.1 r0.2).bind λr1=>brE r1 (some r0) (gL qbv qsp<|gL qbt qsl<|(qu8 (dL qbv qsp) (dL qbt qsl)).bind λr2=>brE (decide (((r2.1:Nat):Int)>12000)) ((q6f 1 (-4)).bind λr3=>some r3) (gL qbt qsl<|(qto (dL qbt qsl)).bind λr3=>some r3))
theorem qtb {qsp qsl r} (h:qtd qsp qsl=some r):qtc qsp qsl=some r :=
 fT (es:=q1gj) (hs:=[]) [] Tryz.func6 trivial trivial h
def qta:=entZ 6 [] qt8 qt9
def q1gh:=qta::q1gj
def qte:=(qqt (vAgg z26))
def qtf:Cod (V×List B) ((Nat×Int×Int)×List Int):=(cPair z2i (qqt (bRow qbt)))
def qti (qsp:L71) (qsl:List Int):=fS Tryz.prog lv X0 56 qte qtf (qsp,qsl)
def qtj (qsp:L71) (qsl:List Int):Oq ((Nat×Int×Int)×List Int) :=gL qbv qsp<|gL qbt qsl<|(qtc (dL qbv qsp) (dL qbt qsl)).bind λr0=>(q69 r0.1 r0.2).bind λr1=>brE r1 (some ((0,r0),EC.decL qbt [])) (gL qbv qsp<|gL qbt qsl<|(qu8 (dL qbv qsp) (dL qbt qsl)).bind λr2=>Option.bind q7g λr3=>gL qbt r2.2<|some ((r2.1,r3),dL qbt r2.2))
theorem qth {qsp qsl r} (h:qtj qsp qsl=some r):qti qsp qsl=some r :=
 fT (es:=q1gh) (hs:=[]) [] Tryz.func56 trivial trivial h
def qtg:=entZ 56 [] qte qtf
def q1gi:=qtg::q1gh
def qd0:=z2f
def qd1:Cod (V×List B) Bool:=z25
def qd4 (c:Int):=fS Tryz.prog lv X0 161 qd0 qd1 c
abbrev zb_t (c:Int):Oq Bool :=brE (decide (c≥48)==true) (brE (decide (c<=57)==false) (brE ((c==45)==false) (some (c==46)) (some true)) (some true)) (brE ((c==45)==false) (some (c==46)) (some true))
def qd5 (c:Int):Oq Bool :=brE (decide (c≥97)==true) (brE (decide (c<=122)==false) (zb_t c) (some true)) (zb_t c)
theorem qd3 {c r} (h:qd5 c=some r):qd4 c=some r :=
 fT (es:=q1gi) (hs:=[]) [] Tryz.func161 trivial trivial h
def qd2:=entZ 161 [] qd0 qd1
def q1fw:=qd2::q1gi
def q1h:Cod (List V) (BA×Unit):=(qqr (vC cStr) (qqt (vFn 161 qqs)))
def q1r:=sLS [0,1,7,8] (qqr (vC cStr) (qqr (vFn 161 qqs) z23)) qqs [] [] (by decide) (λ_=>rfl)
def q1q:=sLS [0,1,7,8,9] (qqr (vC cStr) (qqr (vFn 161 qqs) z24)) qqs [] [] (by decide) (λ_=>rfl)
def q1p:=sLS [4] z2k qqs [] [] (by decide) (λ_=>rfl)
def q1o:=oOr 1 q1p (oAt 2 q1q) (λx=>(by decide:(2:Nat)≠1))
def q1l (s:BA) (t7 t8:Int):=lS Tryz.prog lv X0 78 18 (qm6 (cdF Tryz.f78) 2) q1r q1o ((s,(),t7,t8),())
def q1s (s:BA) (t7 t8:Int):Oq ((Bool×Unit)⊕((BA×Unit×Int×Int×Bool)×Unit)) :=brE (decide (t8<t7)) (gdE (p0 t8&&decide (Int.toNat t8<s.size))<|(qd4 ((UInt8.toNat (Array.getD s.data (Int.toNat t8) (0:UInt8)):Nat):Int)).bind λr0=>brE (!r0) (some (.inl (false,()))) (q1l s t7 (wI t8))) (some (.inr ((s,(),t7,t8,false),())))
theorem q1n:E3 q1s q1l:=λh=>lT (es:=q1fw) (hs:=[]) [] trivial trivial h
def q1m:=lentZ 78 18 2 (qm6 (cdF Tryz.f78) 2) q1r q1o
def q1i:Cod (V×List B) Bool:=z25
def q1v (s:BA):=fS Tryz.prog lv X0 78 q1h q1i (s,())
def q1x (s:BA):Oq Bool :=(q1l s (s.size:Int) 0).bind λr0=>Sum.elim (λr1=>some r1.1) (λ_r1=>some true) r0
theorem q1k {s r} (h:q1x s=some r):q1v s=some r :=
 fT (es:=q1fw) (hs:=[]) [q1m] Tryz.func78 ⟨⟨_,rfl,rfl⟩,trivial⟩ trivial h
def q1j:=entZ 78 [161] q1h q1i
def q1ff:=q1j::q1fw
def qd6:=z28
def qd7:Cod (V×List B) Bool:=z25
def qda (s:BA):=fS Tryz.prog lv X0 141 qd6 qd7 s
def qdb (s:BA):Oq Bool :=brE ((!(s.toList==ByteArray.toList ⟨#[]⟩))==true) (brE (decide ((s.size:Int)<=60)==true) ((q1v s).bind λr0=>brE (r0==true) ((q1e7 s ⟨#[46]⟩).bind λr1=>brE ((!r1)==true) ((q1ed s ⟨#[46]⟩).bind λr2=>brE ((!r2)==true) ((contP s ⟨#[46,46]⟩).bind λr3=>some (!r3)) (some false)) (some false)) (some false)) (some false)) (some false)
theorem qd9 {s r} (h:qdb s=some r):qda s=some r :=
 fT (es:=q1ff) (hs:=[]) [] Tryz.func141 trivial trivial h
def qd8:=entZ 141 [] qd6 qd7
def q1fv:=qd8::q1ff
def qdw:=z2f
def qdx:Cod (V×List B) Bool:=z25
def qe0 (c:Int):=fS Tryz.prog lv X0 140 qdw qdx c
def qe1 (c:Int):Oq Bool :=(q6l c).bind λr0=>brE (r0==false) (some (decide ((Go.Lib.indexByte (Array.toList (List.toArray [(45:UInt8),(95:UInt8),(46:UInt8),(43:UInt8),(61:UInt8)])) (Nat.toUInt8 (Int.toNat c)))≥0))) (some true)
theorem qdz {c r} (h:qe1 c=some r):qe0 c=some r :=
 fT (es:=q1fv) (hs:=[]) [] Tryz.func140 trivial trivial h
def qdy:=entZ 140 [] qdw qdx
def q1g0:=qdy::q1fv
def q2g:Cod (List V) (BA×Unit):=(qqr (vC cStr) (qqt (vFn 140 qqs)))
def q2q:=sLS [0,1,7,8] (qqr (vC cStr) (qqr (vFn 140 qqs) z23)) qqs [] [] (by decide) (λ_=>rfl)
def q2p:=sLS [0,1,7,8,9] (qqr (vC cStr) (qqr (vFn 140 qqs) z24)) qqs [] [] (by decide) (λ_=>rfl)
def q2o:=sLS [4] z2k qqs [] [] (by decide) (λ_=>rfl)
def q2n:=oOr 1 q2o (oAt 2 q2p) (λx=>(by decide:(2:Nat)≠1))
def q2k (s:BA) (t7 t8:Int):=lS Tryz.prog lv X0 78 18 (qm6 (cdF Tryz.f78) 2) q2q q2n ((s,(),t7,t8),())
def q2r (s:BA) (t7 t8:Int):Oq ((Bool×Unit)⊕((BA×Unit×Int×Int×Bool)×Unit)) :=brE (decide (t8<t7)) (gdE (p0 t8&&decide (Int.toNat t8<s.size))<|(qe0 ((UInt8.toNat (Array.getD s.data (Int.toNat t8) (0:UInt8)):Nat):Int)).bind λr0=>brE (!r0) (some (.inl (false,()))) (q2k s t7 (wI t8))) (some (.inr ((s,(),t7,t8,false),())))
theorem q2m:E3 q2r q2k:=λh=>lT (es:=q1g0) (hs:=[]) [] trivial trivial h
def q2l:=lentZ 78 18 2 (qm6 (cdF Tryz.f78) 2) q2q q2n
def q2h:Cod (V×List B) Bool:=z25
def q2u (s:BA):=fS Tryz.prog lv X0 78 q2g q2h (s,())
def q2w (s:BA):Oq Bool :=(q2k s (s.size:Int) 0).bind λr0=>Sum.elim (λr1=>some r1.1) (λ_r1=>some true) r0
theorem q2j {s r} (h:q2w s=some r):q2u s=some r :=
 fT (es:=q1g0) (hs:=[]) [q2l] Tryz.func78 ⟨⟨_,rfl,rfl⟩,trivial⟩ trivial h
def q2i:=entZ 78 [140] q2g q2h
def q1fh:=q2i::q1g0
def qe2:=z28
def qe3:Cod (V×List B) (BA×BA×Bool):=(cFstU (cPair (vTup (qqr (vC cStr) (qqr (vC cStr) z2k))) qqs))
def qe6 (s:BA):=fS Tryz.prog lv X0 119 qe2 qe3 s
def qe7 (s:BA):Oq (BA×BA×Bool) :=(cutP s ⟨#[64]⟩).bind λr0=>brE (r0.2.2==true) (brE ((!(r0.1.toList==ByteArray.toList ⟨#[]⟩))==true) (brE (decide (((r0.1.size:Nat):Int)<=60)==true) ((q2u r0.1).bind λr1=>brE (r1==true) ((qda r0.2.1).bind λr2=>some (r0.1,r0.2.1,r2)) (some (r0.1,r0.2.1,false))) (some (r0.1,r0.2.1,false))) (some (r0.1,r0.2.1,false))) (some (r0.1,r0.2.1,false))
theorem qe5 {s r} (h:qe7 s=some r):qe6 s=some r :=
 fT (es:=q1fh) (hs:=[]) [] Tryz.func119 trivial trivial h
def qe4:=entZ 119 [] qe2 qe3
def q1fz:=qe4::q1fh
def qcu:=z28
def qcv:Cod (V×List B) Bool:=z25
def qcy (s:BA):=fS Tryz.prog lv X0 88 qcu qcv s
def qcz (s:BA):Oq Bool :=(qe6 s).bind λr0=>some r0.2.2
theorem qcx {s r} (h:qcz s=some r):qcy s=some r :=
 fT (es:=q1fz) (hs:=[]) [] Tryz.func88 trivial trivial h
def qcw:=entZ 88 [] qcu qcv
def q1fu:=qcw::q1fz
def qdc:=(qqt z2b)
def qdd:Cod (V×List B) Bool:=z25
def qdg (n:Int):=fS Tryz.prog lv X0 120 qdc qdd n
def qdh (n:Int):Oq Bool :=brE (decide (n≥0)==true) (some (decide (n<=7))) (some false)
theorem qdf {n r} (h:qdh n=some r):qdg n=some r :=
 fT (es:=q1fu) (hs:=[]) [] Tryz.func120 trivial trivial h
def qde:=entZ 120 [] qdc qdd
def q1fx:=qde::q1fu
abbrev z2a:=(qqt (vEptr (qqr cStr (qqt (cInt .i64))) 0))
def q10e:=(qqr (vAgg (qqr (vC cStr) (qqt z2b))) z2a)
def q10f:Cod (V×List B) Bool:=z25
def q10i (q1jw:BA) (q1jx:Int) (c1_0:BA) (c1_1:Int):=fS Tryz.prog lv X0 122 q10e q10f ((q1jw,q1jx),c1_0,c1_1)
def q10j (q1jw:BA) (_q1jx:Int) (c1_0:BA) (_c1_1:Int):Oq Bool :=some (q1jw.toList==c1_0.toList)
theorem q10h:E4 q10j q10i:=λh=>fT (es:=q1fx) (hs:=[]) [] Tryz.func122 trivial trivial h
def q10g:=entZ 122 [] q10e q10f
def q1gr:=q10g::q1fx
structure S73 where
 Address:BA
 Notify:Int
abbrev L73:=List S73
def qbw:EC S73 where
 enc x:=[.str x.Address,.int .i64 x.Notify]
 dec c:=⟨q1e1 (c.getD 0 .ne),qph (c.getD 1 .ne)⟩
 is c:=isE [.str,.int .i64] 0 c
 enc_dec h:=qat h
 dec_enc x:=by rfl
 is_enc x:=by simp [isE,isK]
theorem enc_73 (x:S73):qbw.enc x=[.str x.Address,.int .i64 x.Notify]:=rfl
theorem isE_73 (xs:List S73) (n:Nat):isE [.str,.int .i64] 0 ((qbw.encL xs).getD n [])=decide (n<xs.length):=by
 by_cases h:n<xs.length
 ·simp only [EC.getD_lt _ _ h];simp [enc_73,isE,isK,h]
 ·simp only [EC.getD_ge _ _ (y7q.1 h)];simp [isE,isK,h]
theorem q57 (xs:List S73) (n:Nat):q1e1 (((qbw.encL xs).getD n []).getD 0 .ne)=(xs.getD n (qbw.dec [])).Address:=by
 by_cases h:n<xs.length
 ·simp only [EC.getD_lt _ _ h];simp [enc_73,h,q1e1]
 ·simp only [EC.getD_ge _ _ (y7q.1 h)];simp [y7q.1 h,qbw,q1e1,qph]
theorem q58 (xs:List S73) (n:Nat):qph (((qbw.encL xs).getD n []).getD 1 .ne)=(xs.getD n (qbw.dec [])).Notify:=by
 by_cases h:n<xs.length
 ·simp only [EC.getD_lt _ _ h];simp [enc_73,h,qph]
 ·simp only [EC.getD_ge _ _ (y7q.1 h)];simp [y7q.1 h,qbw,q1e1,qph]
theorem all_73 (xs:List S73):(qbw.encL xs).all (λ(el:List C)=>el.length==2)=true:=by induction xs with|nil=>rfl|cons x xs ih=>first|(simp [EC.encL,enc_73];done)|simpa [EC.encL,enc_73] using ih
abbrev z2e:=(vC (cSl qbw))
def qov:=(qqr z2e (qqt (vFn 122 z2a)))
def qp5:=sLS [0,1,7,8] (qqr z2e (qqr (vFn 122 z2a) z23)) qqs [] [] (by decide) (λ_=>rfl)
def qp4:=sLS [0,1,7,8,9] (qqr z2e (qqr (vFn 122 z2a) z24)) qqs [] [] (by decide) (λ_=>rfl)
def qp3:=sLS [4] (qqt z2b) qqs [] [] (by decide) (λ_=>rfl)
def qp2:=oOr 1 qp3 (oAt 2 qp4) (λx=>(by decide:(2:Nat)≠1))
def qoz (s:L73) (f:BA) (f_1 t7 t8:Int):=lS Tryz.prog lv X0 142 19 (qm6 (cdF Tryz.f142) 2) qp5 qp2 ((s,(f,f_1),t7,t8),())
def qp6 (s:L73) (f:BA) (f_1 t7 t8:Int):Oq ((Int×Unit)⊕((L73×(BA×Int)×Int×Int×Bool)×Unit)) :=brE (decide (t8<t7)) (gdE (p0 t8)<|gdE (eC qbw s t8 [K1.str,K1.int IntKind.i64])<|(q10i (q1e1 (List.getD (List.getD (EC.encL qbw s) (Int.toNat t8) []) 0 C.ne)) (qph (List.getD (List.getD (EC.encL qbw s) (Int.toNat t8) []) 1 C.ne)) f f_1).bind λr0=>brE r0 (some (.inl (t8,()))) (gL qbw s<|qoz (dL qbw s) f f_1 t7 (wI t8))) (gL qbw s<|some (.inr ((dL qbw s,(f,f_1),t7,t8,false),())))
theorem qp1:E5 qp6 qoz:=λh=>lT (es:=q1gr) (hs:=[]) [] trivial trivial h
def qp0:=lentZ 142 19 2 (qm6 (cdF Tryz.f142) 2) qp5 qp2
def qow:Cod (V×List B) Int:=(cFstU (cPair z2b qqs))
def qp8 (s:L73) (f_0:BA) (f_1:Int):=fS Tryz.prog lv X0 142 qov qow (s,f_0,f_1)
def qp9 (s:L73) (f_0:BA) (f_1:Int):Oq Int :=gL qbw s<|(qoz (dL qbw s) f_0 f_1 (lN qbw s:Int) 0).bind λr0=>Sum.elim (λr1=>some r1.1) (λ_r1=>some (-1:Int)) r0
theorem qoy:E3 qp9 qp8:=λh=>fT (es:=q1gr) (hs:=[]) [qp0] Tryz.func142 ⟨⟨_,rfl,rfl⟩,trivial⟩ trivial h
def qox:=entZ 142 [122] qov qow
def q1gg:=qox::q1gr
def qmk:=(qqr z2e (qqt (vFn 122 z2a)))
def qml:Cod (V×List B) Bool:=z25
def qmp (s:L73) (f_0:BA) (f_1:Int):=fS Tryz.prog lv X0 121 qmk qml (s,f_0,f_1)
def qmq (s:L73) (f_0:BA) (f_1:Int):Oq Bool :=gL qbw s<|(qp8 (dL qbw s) f_0 f_1).bind λr0=>some (decide (r0≥0))
theorem qmn:E3 qmq qmp:=λh=>fT (es:=q1gg) (hs:=[]) [] Tryz.func121 trivial trivial h
def qmm:=entZ 121 [122] qmk qml
def q1gb:=qmm::q1gg
def qdi:=(qqt z2e)
def qds:=sLS [0,2,5,6,7] (qqr z2e (qqr (vPtr 0 0) (qqr z2e z23))) z2c [false] [] (by decide) (λ_=>rfl)
def qdr:=sLS [0,2,5,6,7,8] (qqr z2e (qqr (vPtr 0 0) (qqr z2e z24))) z2c [false] [] (by decide) (λ_=>rfl)
def qdq:=sLS [2] (qqt (vPtr 0 0)) z2c [false] [] (by decide) (λ_=>rfl)
def qdp:=oOr 1 qdq (oAt 2 qdr) (λx=>(by decide:(2:Nat)≠1))
def qdm (l t5:L73) (t6 t7:Int) (b0 b0_1:Int):=lS Tryz.prog lv X0 89 36 (qm6 (cdF Tryz.f89) 2) qds qdp ((l,(),t5,t6,t7),b0,b0_1)
def qdt (l t5:L73) (t6 t7:Int) (b0 b0_1:Int):Oq ((Unit×Int×Int)⊕((L73×Unit×L73×Int×Int×Bool)×Int×Int)) :=brE (decide (t7<t6)) (gdE (p0 t7)<|gdE (eC qbw t5 t7 [K1.str,K1.int IntKind.i64])<|(qcy (q1e1 (List.getD (List.getD (EC.encL qbw t5) (Int.toNat t7) []) 0 C.ne))).bind λr0=>brE (!r0) ((q6f 10 t7).bind λr1=>some (.inl ((),r1))) ((qdg (qph (List.getD (List.getD (EC.encL qbw t5) (Int.toNat t7) []) 1 C.ne))).bind λr1=>brE (!r1) ((q6f 3 t7).bind λr2=>some (.inl ((),r2))) (gdE (p0 t7&&decide (t7<=(lN qbw l:Int)))<|gdE (aL (EC.encL qbw l) 2)<|gdE (EC.isL qbw (List.take ((Int.toNat t7) - 0) (List.drop 0 (EC.encL qbw l))))<|(qmp (EC.decL qbw (List.take ((Int.toNat t7) - 0) (List.drop 0 (EC.encL qbw l)))) (q1e1 (List.getD (List.getD (EC.encL qbw t5) (Int.toNat t7) []) 0 C.ne)) (qph (List.getD (List.getD (EC.encL qbw t5) (Int.toNat t7) []) 1 C.ne))).bind λr2=>brE r2 ((q6f 7 t7).bind λr3=>some (.inl ((),r3))) (gL qbw l<|gL qbw t5<|qdm (dL qbw l) (dL qbw t5) t6 (wI t7) b0 b0_1)))) (gL qbw l<|gL qbw t5<|some (.inr ((dL qbw l,(),dL qbw t5,t6,t7,false),b0,b0_1)))
theorem qdo:E6 qdt qdm:=λh=>lT (es:=q1gb) (hs:=[]) [] trivial trivial h
def qdn:=lentZ 89 36 2 (qm6 (cdF Tryz.f89) 2) qds qdp
def qdj:Cod (V×List B) (Int×Int):=z29
def qdu (l:L73):=fS Tryz.prog lv X0 89 qdi qdj l
def qdv (l:L73):Oq (Int×Int) :=gL qbw l<|gL qbw l<|(qdm (dL qbw l) (dL qbw l) (lN qbw l:Int) 0 0 0).bind λr0=>Sum.elim (λr1=>some r1.2) (λ_r1=>Option.bind q7g λr2=>some r2) r0
theorem qdl {l r} (h:qdv l=some r):qdu l=some r :=
 fT (es:=q1gb) (hs:=[]) [qdn] Tryz.func89 ⟨⟨_,rfl,rfl⟩,trivial⟩ trivial h
def qdk:=entZ 89 [] qdi qdj
def q1fy:=qdk::q1gb
def qe8:=(qqt (vAgg (qqr (vC cStr) (qqr z2e z28))))
def qe9:Cod (V×List B) (Int×Int):=z29
def qec (e_From:BA) (e_To:L73) (e_Id:BA):=fS Tryz.prog lv X0 55 qe8 qe9 (e_From,e_To,e_Id)
abbrev ze_t (e_To:L73) (e_Id:BA):Oq (Int×Int) :=brE (decide ((lN qbw e_To:Int)<1)==false) (brE (decide ((lN qbw e_To:Int)>60)) ((q6f 2 (-11)).bind λr0=>some r0) (brE ((!(e_Id.toList==ByteArray.toList ⟨#[]⟩))==true) ((q7a e_Id).bind λr0=>brE (!r0) ((q6f 10 (-12)).bind λr1=>some r1) (gL qbw e_To<|(qdu (dL qbw e_To)).bind λr1=>some r1)) (gL qbw e_To<|(qdu (dL qbw e_To)).bind λr0=>some r0))) ((q6f 2 (-11)).bind λr0=>some r0)
def qed (e_From:BA) (e_To:L73) (e_Id:BA):Oq (Int×Int) :=brE ((!(e_From.toList==ByteArray.toList ⟨#[]⟩))==true) ((qcy e_From).bind λr0=>brE (!r0) ((q6f 10 (-10)).bind λr1=>some r1) (ze_t e_To e_Id)) (ze_t e_To e_Id)
theorem qeb:E3 qed qec:=λh=>fT (es:=q1fy) (hs:=[]) [] Tryz.func55 trivial trivial h
def qea:=entZ 55 [] qe8 qe9
def q1g1:=qea::q1fy
end
end Go.Proofs.YtmlcmoaonaomfaaGreatDoor
