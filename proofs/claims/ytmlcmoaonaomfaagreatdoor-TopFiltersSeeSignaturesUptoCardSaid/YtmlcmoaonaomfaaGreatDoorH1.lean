/- Functions of the program as plain functions: made by program from the machine. -/
import Derived.Test.YtmlcmoaonaomfaaGreatDoorGB
namespace Go.Proofs.YtmlcmoaonaomfaaGreatDoor
open Go.RowKit
abbrev gL {τ β:Type} (e:EC τ) (l:List τ) (x:Oq β):Oq β:=gdE (EC.isL e (EC.encL e l)) x
abbrev dL {τ:Type} (e:EC τ) (l:List τ):List τ:=EC.decL e (EC.encL e l)
abbrev lN {τ:Type} (e:EC τ) (l:List τ):Nat:=List.length (EC.encL e l)
abbrev eC {τ:Type} (e:EC τ) (l:List τ) (i:Int) (k:List K1):Bool:=(decide ((Int.toNat i)<(List.length (EC.encL e l))))&&(isE k 0 (List.getD (EC.encL e l) (Int.toNat i) []))
abbrev wI (i:Int):Int:=IntKind.wrap .i64 (i+1)
abbrev p0 (i:Int):Bool:=decide (0<=i)
abbrev aL (l:List (List C)) (n:Nat):Bool:=List.all l (λ(el:(List C))=>((List.length el)==n))
abbrev dQ (n k:Nat):Bool:=decide ((((n+(n / 4))+192)*k)<=281474976710656)
abbrev dM (n:Nat):Bool:=decide (n<=9223372036854775807)
abbrev LB:=List ByteArray
set_option maxRecDepth 100000
noncomputable section
abbrev ze:=(qpj (vC (cInt .i64)) (qpl (vC (cInt .i64))))
def q5y:=ze
abbrev zm:=(cFstU (cPair (vAgg ze) (qpk (ρ:=B))))
def q5z:Cod (V×List B) (Int×Int):=zm
def q62 (code at_:Int):=fS Tryz.prog lv X0 18 q5y q5z (code,at_)
def q63 (code at_:Int):Oq (Int×Int) :=
 (some (code,at_))
theorem q61 {code at_ r} (h:q63 code at_=some r):q62 code at_=some r :=
 qg7 (es:=tab0) (hs:=[]) [] Tryz.func18 rfl (by kernel_rfl) rfl (by kernel_rfl) (by kernel_rfl) trivial trivial (by kernel_rfl) h
def q60:=entS Tryz.prog lv X0 18 [] q5y q5z (λx=>q62 x.1 x.2) (λ_ _ h=>qg5 h)
def q1ag:=q60::tab0
def q6z:Cod (List V) Unit:=qpk
def q70:Cod (V×List B) (Int×Int):=zm
def q73 :=fS Tryz.prog lv X0 19 q6z q70 ()
def q74 :Oq (Int×Int) :=
 (some (0,0))
theorem q72 {r} (h:q74 =some r):q73 =some r :=
 qg7 (es:=q1ag) (hs:=[]) [] Tryz.func19 rfl (by kernel_rfl) rfl (by kernel_rfl) (by kernel_rfl) trivial trivial (by kernel_rfl) h
def q71:=entS Tryz.prog lv X0 19 [] q6z q70 (λx=>q73 ) (λ_ _ h=>qg5 h)
def q1al:=q71::q1ag
def q5s:=(qpl (vAgg ze))
abbrev zh:=(cFstU (cPair (vC cBool) (qpk (ρ:=B))))
def q5t:Cod (V×List B) Bool:=zh
def q5w (f_Code f_Index:Int):=fS Tryz.prog lv X0 16 q5s q5t (f_Code,f_Index)
def q5x (f_Code f_Index:Int):Oq Bool :=
 (some (f_Code != 0))
theorem q5v {f_Code f_Index r} (h:q5x f_Code f_Index=some r):q5w f_Code f_Index=some r :=
 qg7 (es:=q1al) (hs:=[]) [] Tryz.func16 rfl (by kernel_rfl) rfl (by kernel_rfl) (by kernel_rfl) trivial trivial (by kernel_rfl) h
def q5u:=entS Tryz.prog lv X0 16 [] q5s q5t (λx=>q5w x.1 x.2) (λ_ _ h=>qg5 h)
def q1af:=q5u::q1al
abbrev zu:=(qpl (vC (cInt .u8)))
def q64:=zu
def q65:Cod (V×List B) Bool:=zh
def q68 (c:Int):=fS Tryz.prog lv X0 80 q64 q65 c
def q69 (c:Int):Oq Bool :=
 (brE ((decide (c≥97))==true)
 (brE ((decide (c<=122))==false)
 (brE ((decide (c≥65))==true)
 (brE ((decide (c<=90))==false)
 (brE ((decide (c≥48))==true)
 (some (decide (c<=57)))
 (some false))
 (some true))
 (brE ((decide (c≥48))==true)
 (some (decide (c<=57)))
 (some false)))
 (some true))
 (brE ((decide (c≥65))==true)
 (brE ((decide (c<=90))==false)
 (brE ((decide (c≥48))==true)
 (some (decide (c<=57)))
 (some false))
 (some true))
 (brE ((decide (c≥48))==true)
 (some (decide (c<=57)))
 (some false))))
theorem q67 {c r} (h:q69 c=some r):q68 c=some r :=
 qg7 (es:=q1af) (hs:=[]) [] Tryz.func80 rfl (by kernel_rfl) rfl (by kernel_rfl) (by kernel_rfl) trivial trivial (by kernel_rfl) h
def q66:=entS Tryz.prog lv X0 80 [] q64 q65 (λx=>q68 x) (λ_ _ h=>qg5 h)
def q1ah:=q66::q1af
def q58:=zu
def q59:Cod (V×List B) Bool:=zh
def q5c (c:Int):=fS Tryz.prog lv X0 108 q58 q59 c
def q5d (c:Int):Oq Bool :=
 (brE ((c==32)==false)
 (some (c==9))
 (some true))
theorem q5b {c r} (h:q5d c=some r):q5c c=some r :=
 qg7 (es:=q1ah) (hs:=[]) [] Tryz.func108 rfl (by kernel_rfl) rfl (by kernel_rfl) (by kernel_rfl) trivial trivial (by kernel_rfl) h
def q5a:=entS Tryz.prog lv X0 108 [] q58 q59 (λx=>q5c x) (λ_ _ h=>qg5 h)
def q1ad:=q5a::q1ah
def qcy:EC Int where
 enc x:=[.int .u8 x]
 dec c:=qo4 (c.getD 0 .ne)
 is c:=isE [.int .u8] 0 c
 enc_dec h:=qc4 h
 dec_enc x:=by rfl
 is_enc x:=by simp [isE,isK]
theorem enc_5 (x:Int):qcy.enc x=[.int .u8 x]:=rfl
theorem qol (xs:List Int) (n:Nat):isE [.int .u8] 0 ((qcy.encL xs).getD n [])=decide (n<xs.length):=by
 by_cases h:n<xs.length
 ·simp only [EC.getD_lt _ _ h];simp [enc_5,isE,isK,h]
 ·simp only [EC.getD_ge _ _ (Nat.not_lt.1 h)];simp [isE,isK,h]
theorem q4x (xs:List Int) (n:Nat):qo4 (((qcy.encL xs).getD n []).getD 0 .ne)=(xs.getD n (qcy.dec [])):=by
 by_cases h:n<xs.length
 ·simp only [EC.getD_lt _ _ h];simp [enc_5,h,q18t,qo4,q84,slOf,List.getD_eq_getElem?_getD]
 ·simp only [EC.getD_ge _ _ (Nat.not_lt.1 h)];simp [Nat.not_lt.1 h,qcy,q18t,qo4,q84,slOf,List.getD_eq_getElem?_getD,EC.decL,EC.encL]
theorem lit_5 (a0:Int):([.int .u8 a0]:List C)=qcy.enc a0:=rfl
theorem q43 (xs:List Int) (a0:Int):qcy.encL xs++[[.int .u8 a0]]=qcy.encL (xs++[a0]):=by rw [lit_5];simp [EC.encL]
theorem len_5 (xs:List Int) (n:Nat) (h:n<xs.length):((qcy.encL xs).getD n []).length=1:=by rw [EC.getD_lt _ _ h];rfl
theorem q3k (xs:List Int):(qcy.encL xs).all (λ(el:List C)=>el.length==1)=true:=by induction xs with|nil=>rfl|cons x xs ih=>first|(simp [EC.encL,enc_5];done)|simpa [EC.encL,enc_5] using ih
theorem q164 (xs:List Int) (n:Nat) (a0:Int):(qcy.encL xs).set n (splice ((qcy.encL xs).getD n []) 0 [.int .u8 a0])=qcy.encL (xs.set n (a0)):=by
 by_cases h:n<xs.length
 ·rw [EC.getD_lt _ _ h];simp [EC.encL,List.map_set,enc_5,splice,List.getD_eq_getElem?_getD,h]
 ·simp [EC.encL,List.set_eq_of_length_le,Nat.not_lt.1 h]
abbrev zk:=(qpl (vC cStr))
def q6a:=zk
abbrev z10:=(qpl (qu4 (bRow qcy)))
def q6j:=sLS [3,8,9,10] (qpj (vRow 0) (qpj (vRow 0) ze)) z10 [false] [] (by decide) (λ_=>rfl)
abbrev zg:=(qpj (vC (cInt .i64)) (qpj (vC (cInt .i64)) (qpl (vC cBool))))
def q6i:=sLS [3,8,9,10,11] (qpj (vRow 0) (qpj (vRow 0) zg)) z10 [false] [] (by decide) (λ_=>rfl)
def q6h:=oAt 2 q6i
def q6e (b t8:Nat) (t9 t10:Int) (b0:(List Int)):=lS Tryz.prog lv X0 44 30 (qk8 (cdF Tryz.f44) 3) q6j q6h ((b,t8,t9,t10),b0)
abbrev z7 (t10:Int) (b0:(List Int)):=(List.getD (EC.encL qcy b0) (Int.toNat t10) [])
def q6k (b t8:Nat) (t9 t10:Int) (b0:(List Int)):Oq ((Nat×Nat×Int×Int×Bool)×(List Int)) :=
 (brE (decide (t10<t9))
 (gdE ((p0 t10)&&(decide (t10<((t8:Nat):Int))))<|
 (gdE ((decide ((Int.toNat t10)<(lN qcy b0)))&&((List.length (z7 t10 b0))==1))<|
 (gdE (isP [(K1.int Go.IntKind.u8)] 0 (z7 t10 b0))<|
 (brE ((decide ((qo4 (List.getD (z7 t10 b0) 0 C.ne))≥65))==true)
 (brE (decide ((qo4 (List.getD (z7 t10 b0) 0 C.ne))<=90))
 (gdE ((p0 t10)&&(decide (t10<((b:Nat):Int))))<|
 (gdE ((decide ((Int.toNat t10)<(lN qcy b0)))&&((List.length (z7 t10 b0))==1))<|
 (gdE (EC.isL qcy (List.set (EC.encL qcy b0) (Int.toNat t10) (splice (z7 t10 b0) 0 [(C.int Go.IntKind.u8 (IntKind.wrap .u8 ((IntKind.wrap .u8 ((qo4 (List.getD (z7 t10 b0) 0 C.ne))+97)) - 65)))])))<|
 (q6e b t8 t9 (wI t10) (EC.decL qcy (List.set (EC.encL qcy b0) (Int.toNat t10) (splice (z7 t10 b0) 0 [(C.int Go.IntKind.u8 (IntKind.wrap .u8 ((IntKind.wrap .u8 ((qo4 (List.getD (z7 t10 b0) 0 C.ne))+97)) - 65)))])))))))
 (gL qcy b0<|
 (q6e b t8 t9 (wI t10) (dL qcy b0))))
 (gL qcy b0<|
 (q6e b t8 t9 (wI t10) (dL qcy b0)))))))
 (gL qcy b0<|
 (some ((b,(t8,(t9,(t10,false)))),(dL qcy b0)))))
theorem q6g {b t8 t9 t10 b0 r} (h:q6k b t8 t9 t10 b0=some r):q6e b t8 t9 t10 b0=some r :=
 qpn (es:=q1ad) (hs:=[]) [] (by kernel_rfl) trivial trivial (by kernel_rfl) h
def q6f:=qqh Tryz.prog lv X0 3 (qk8 (cdF Tryz.f44) 3) q6j q6h (λx=>q6e x.1.1 x.1.2.1 x.1.2.2.1 x.1.2.2.2 x.2) (λ_ _ h=>qpm h)
def q6b:Cod (V×List B) BA:=(cFstU (cPair (vC cStr) qpk))
def q6l (s:BA):=fS Tryz.prog lv X0 44 q6a q6b s
def q6m (s:BA):Oq BA :=
 (gdE ((dM s.size)&&(!(s.size==0)))<|
 (gdE (EC.isL qcy (bytesL s))<|
 ((q6e s.size s.size (s.size:Int) 0 (EC.decL qcy (bytesL s))).bind λr0 =>
 ((bytesOf (EC.encL qcy r0.2)).bind λr1 =>
 (some (ByteArray.mk (List.toArray r1)))))))
theorem q6d {s r} (h:q6m s=some r):q6l s=some r :=
 qg7 (es:=q1ad) (hs:=[]) [q6f] Tryz.func44 rfl (by kernel_rfl) rfl (by kernel_rfl) (by kernel_rfl) ⟨⟨_,rfl,rfl⟩,trivial⟩ trivial (by kernel_rfl) h
def q6c:=entS Tryz.prog lv X0 44 [] q6a q6b (λx=>q6l x) (λ_ _ h=>qg5 h)
def q1ai:=q6c::q1ad
abbrev zw:=(qpj (vC cStr) zk)
def q75:=zw
def q76:Cod (V×List B) Bool:=zh
def q79 (a b:BA):=fS Tryz.prog lv X0 46 q75 q76 (a,b)
def q7a (a b:BA):Oq Bool :=
 (brE (((a.size:Int)==(b.size:Int))==true)
 ((q6l a).bind λr0 =>
 ((q6l b).bind λr1 =>
 (some (r0.toList==r1.toList))))
 (some false))
theorem q78 {a b r} (h:q7a a b=some r):q79 a b=some r :=
 qg7 (es:=q1ai) (hs:=[]) [] Tryz.func46 rfl (by kernel_rfl) rfl (by kernel_rfl) (by kernel_rfl) trivial trivial (by kernel_rfl) h
def q77:=entS Tryz.prog lv X0 46 [] q75 q76 (λx=>q79 x.1 x.2) (λ_ _ h=>qg5 h)
def q1am:=q77::q1ai
def q5e:=(qpl (vC (cSl qcy)))
def q5o:=sLS [0,3,4] (qpj (vC (cSl qcy)) ze) qpk [] [] (by decide) (λ_=>rfl)
def q5n:=sLS [0,3,4,9] (qpj (vC (cSl qcy)) zg) qpk [] [] (by decide) (λ_=>rfl)
abbrev zo:=(vC (cInt .i64))
def q5m:=sLS [2] (qpl zo) qpk [] [] (by decide) (λ_=>rfl)
def q5l:=oOr 1 q5m (oAt 2 q5n) (λx=>(by decide:(2:Nat)≠1))
def q5i (b:(List Int)) (column i:Int):=lS Tryz.prog lv X0 37 45 (qk8 (cdF Tryz.f37) 3) q5o q5l ((b,column,i),())
def q5p (b:(List Int)) (column i:Int):Oq ((Int×Unit)⊕(((List Int)×Int×Int×Bool)×Unit)) :=
 (brE (decide (i<(lN qcy b:Int)))
 (gdE (p0 i)<|
 (gdE (eC qcy b i [(K1.int Go.IntKind.u8)])<|
 (brE (((qo4 (List.getD (List.getD (EC.encL qcy b) (Int.toNat i) []) 0 C.ne))==13)==true)
 (brE ((decide ((wI i)<(lN qcy b:Int)))==true)
 (gdE (p0 (wI i))<|
 (gdE (eC qcy b (wI i) [(K1.int Go.IntKind.u8)])<|
 (brE ((qo4 (List.getD (List.getD (EC.encL qcy b) (Int.toNat (wI i)) []) 0 C.ne))==10)
 (gL qcy b<|
 (q5i (dL qcy b) 0 (wI (wI i))))
 (brE (((qo4 (List.getD (List.getD (EC.encL qcy b) (Int.toNat i) []) 0 C.ne))==13)==false)
 (brE ((qo4 (List.getD (List.getD (EC.encL qcy b) (Int.toNat i) []) 0 C.ne))==10)
 (some (.inl (11,())))
 (brE (decide ((wI column)>998))
 (some (.inl (1,())))
 (gL qcy b<|
 (q5i (dL qcy b) (wI column) (wI i)))))
 (some (.inl (11,())))))))
 (brE (((qo4 (List.getD (List.getD (EC.encL qcy b) (Int.toNat i) []) 0 C.ne))==13)==false)
 (brE ((qo4 (List.getD (List.getD (EC.encL qcy b) (Int.toNat i) []) 0 C.ne))==10)
 (some (.inl (11,())))
 (brE (decide ((wI column)>998))
 (some (.inl (1,())))
 (gL qcy b<|
 (q5i (dL qcy b) (wI column) (wI i)))))
 (some (.inl (11,())))))
 (brE (((qo4 (List.getD (List.getD (EC.encL qcy b) (Int.toNat i) []) 0 C.ne))==13)==false)
 (brE ((qo4 (List.getD (List.getD (EC.encL qcy b) (Int.toNat i) []) 0 C.ne))==10)
 (some (.inl (11,())))
 (brE (decide ((wI column)>998))
 (some (.inl (1,())))
 (gL qcy b<|
 (q5i (dL qcy b) (wI column) (wI i)))))
 (some (.inl (11,())))))))
 (gL qcy b<|
 (some (.inr (((dL qcy b),(column,(i,false))),())))))
theorem q5k {b column i r} (h:q5p b column i=some r):q5i b column i=some r :=
 qpn (es:=q1am) (hs:=[]) [] (by kernel_rfl) trivial trivial (by kernel_rfl) h
def q5j:=qqh Tryz.prog lv X0 3 (qk8 (cdF Tryz.f37) 3) q5o q5l (λx=>q5i x.1.1 x.1.2.1 x.1.2.2) (λ_ _ h=>qpm h)
def q5f:Cod (V×List B) Int:=(cFstU (cPair zo qpk))
def q5q (b:(List Int)):=fS Tryz.prog lv X0 37 q5e q5f b
def q5r (b:(List Int)):Oq Int :=
 (gL qcy b<|
 ((q5i (dL qcy b) 0 0).bind λr0 =>
 (Sum.elim (λr1=>(some r1.1))
 (λr1=>(some 0)) r0)))
theorem q5h {b r} (h:q5r b=some r):q5q b=some r :=
 qg7 (es:=q1am) (hs:=[]) [q5j] Tryz.func37 rfl (by kernel_rfl) rfl (by kernel_rfl) (by kernel_rfl) ⟨⟨_,rfl,rfl⟩,trivial⟩ trivial (by kernel_rfl) h
def q5g:=entS Tryz.prog lv X0 37 [] q5e q5f (λx=>q5q x) (λ_ _ h=>qg5 h)
def q1ae:=q5g::q1am
def q6n:=zu
def q6o:Cod (V×List B) Bool:=zh
def q6r (c:Int):=fS Tryz.prog lv X0 79 q6n q6o c
def q6s (c:Int):Oq Bool :=
 ((q68 c).bind λr0 =>
 (brE (r0==false)
 (brE ((c==45)==false)
 (brE ((c==95)==false)
 (some (c==46))
 (some true))
 (some true))
 (some true)))
theorem q6q {c r} (h:q6s c=some r):q6r c=some r :=
 qg7 (es:=q1ae) (hs:=[]) [] Tryz.func79 rfl (by kernel_rfl) rfl (by kernel_rfl) (by kernel_rfl) trivial trivial (by kernel_rfl) h
def q6p:=entS Tryz.prog lv X0 79 [] q6n q6o (λx=>q6r x) (λ_ _ h=>qg5 h)
def q1ak:=q6p::q1ae
def q2y:Cod (List V) (BA×Unit):=(qpj (vC cStr) (qpl (vFn 79 qpk)))
def q38:=sLS [0,1,7,8] (qpj (vC cStr) (qpj (vFn 79 qpk) ze)) qpk [] [] (by decide) (λ_=>rfl)
def q37:=sLS [0,1,7,8,9] (qpj (vC cStr) (qpj (vFn 79 qpk) zg)) qpk [] [] (by decide) (λ_=>rfl)
abbrev z11:=(qpl (vC cBool))
def q36:=sLS [4] z11 qpk [] [] (by decide) (λ_=>rfl)
def q35:=oOr 1 q36 (oAt 2 q37) (λx=>(by decide:(2:Nat)≠1))
def q32 (s:BA) (t7 t8:Int):=lS Tryz.prog lv X0 78 18 (qk8 (cdF Tryz.f78) 2) q38 q35 ((s,(),t7,t8),())
def q39 (s:BA) (t7 t8:Int):Oq ((Bool×Unit)⊕((BA×Unit×Int×Int×Bool)×Unit)) :=
 (brE (decide (t8<t7))
 (gdE ((p0 t8)&&(decide ((Int.toNat t8)<s.size)))<|
 ((q6r (((UInt8.toNat (Array.getD s.data (Int.toNat t8) (0:UInt8))):Nat):Int)).bind λr0 =>
 (brE (!r0)
 (some (.inl (false,())))
 (q32 s t7 (wI t8)))))
 (some (.inr ((s,((),(t7,(t8,false)))),()))))
theorem q34 {s t7 t8 r} (h:q39 s t7 t8=some r):q32 s t7 t8=some r :=
 qpn (es:=q1ak) (hs:=[]) [] (by kernel_rfl) trivial trivial (by kernel_rfl) h
def q33:=qqh Tryz.prog lv X0 2 (qk8 (cdF Tryz.f78) 2) q38 q35 (λx=>q32 x.1.1 x.1.2.2.1 x.1.2.2.2) (λ_ _ h=>qpm h)
def q2z:Cod (V×List B) Bool:=zh
def q3c (s:BA):=fS Tryz.prog lv X0 78 q2y q2z (s,())
def q3e (s:BA):Oq Bool :=
 ((q32 s (s.size:Int) 0).bind λr0 =>
 (Sum.elim (λr1=>(some r1.1))
 (λr1=>(some true)) r0))
theorem q31 {s r} (h:q3e s=some r):q3c s=some r :=
 qg7 (es:=q1ak) (hs:=[]) [q33] Tryz.func78 rfl (by kernel_rfl) rfl (by kernel_rfl) (by kernel_rfl) ⟨⟨_,rfl,rfl⟩,trivial⟩ trivial (by kernel_rfl) h
def q30:=entS Tryz.prog lv X0 78 [79] q2y q2z (λx=>q3c x.1) (λ_ _ h=>qg5 h)
def q1ac:=q30::q1ak
def q6t:=zk
def q6u:Cod (V×List B) Bool:=zh
def q6x (s:BA):=fS Tryz.prog lv X0 43 q6t q6u s
def q6y (s:BA):Oq Bool :=
 (brE ((!(s.toList==(ByteArray.toList ⟨#[]⟩)))==true)
 (brE ((decide ((s.size:Int)<=60))==true)
 ((q3c s).bind λr0 =>
 (some r0))
 (some false))
 (some false))
theorem q6w {s r} (h:q6y s=some r):q6x s=some r :=
 qg7 (es:=q1ac) (hs:=[]) [] Tryz.func43 rfl (by kernel_rfl) rfl (by kernel_rfl) (by kernel_rfl) trivial trivial (by kernel_rfl) h
def q6v:=entS Tryz.prog lv X0 43 [] q6t q6u (λx=>q6x x) (λ_ _ h=>qg5 h)
def q1aj:=q6v::q1ac
def q19d:=zw
def q19e:Cod (V×List B) Bool:=zh
def q19h (s prefix_:BA):=fS Tryz.prog lv X0 129 q19d q19e (s,prefix_)
def q19i (s prefix_:BA):Oq Bool :=
 (brE ((decide ((s.size:Int)≥(prefix_.size:Int)))==true)
 (gdE ((p0 (prefix_.size:Int))&&(decide ((prefix_.size:Int)<=(s.size:Int))))<|
 (some ((ByteArray.toList (ByteArray.extract s 0 (Int.toNat (prefix_.size:Int))))==prefix_.toList)))
 (some false))
theorem q19g {s prefix_ r} (h:q19i s prefix_=some r):q19h s prefix_=some r :=
 qg7 (es:=q1aj) (hs:=[]) [] Tryz.func129 rfl (by kernel_rfl) rfl (by kernel_rfl) (by kernel_rfl) trivial trivial (by kernel_rfl) h
def q19f:=entS Tryz.prog lv X0 129 [] q19d q19e (λx=>q19h x.1 x.2) (λ_ _ h=>qg5 h)
def q1ck:=q19f::q1aj
def q19j:=zw
def q19k:Cod (V×List B) Bool:=zh
def q19n (s suffix:BA):=fS Tryz.prog lv X0 191 q19j q19k (s,suffix)
def q19o (s suffix:BA):Oq Bool :=
 (brE ((decide ((s.size:Int)≥(suffix.size:Int)))==true)
 (gdE ((decide (0<=(IntKind.wrap .i64 ((s.size:Int) - (suffix.size:Int)))))&&(decide ((IntKind.wrap .i64 ((s.size:Int) - (suffix.size:Int)))<=(s.size:Int))))<|
 (some ((ByteArray.toList (ByteArray.extract s (Int.toNat (IntKind.wrap .i64 ((s.size:Int) - (suffix.size:Int)))) s.size))==suffix.toList)))
 (some false))
theorem q19m {s suffix r} (h:q19o s suffix=some r):q19n s suffix=some r :=
 qg7 (es:=q1ck) (hs:=[]) [] Tryz.func191 rfl (by kernel_rfl) rfl (by kernel_rfl) (by kernel_rfl) trivial trivial (by kernel_rfl) h
def q19l:=entS Tryz.prog lv X0 191 [] q19j q19k (λx=>q19n x.1 x.2) (λ_ _ h=>qg5 h)
def q1cl:=q19l::q1ck
def q18v:=zw
def q18w:Cod (V×List B) Bool:=zh
def q18z (s prefix_:BA):=fS Tryz.prog lv X0 99 q18v q18w (s,prefix_)
def q190 (s prefix_:BA):Oq Bool :=
 ((q19h s prefix_).bind λr0 =>
 (some r0))
theorem q18y {s prefix_ r} (h:q190 s prefix_=some r):q18z s prefix_=some r :=
 qg7 (es:=q1cl) (hs:=[]) [] Tryz.func99 rfl (by kernel_rfl) rfl (by kernel_rfl) (by kernel_rfl) trivial trivial (by kernel_rfl) h
def q18x:=entS Tryz.prog lv X0 99 [] q18v q18w (λx=>q18z x.1 x.2) (λ_ _ h=>qg5 h)
def q1ch:=q18x::q1cl
def q191:=zw
def q192:Cod (V×List B) Bool:=zh
def q195 (s suffix:BA):=fS Tryz.prog lv X0 162 q191 q192 (s,suffix)
def q196 (s suffix:BA):Oq Bool :=
 ((q19n s suffix).bind λr0 =>
 (some r0))
theorem q194 {s suffix r} (h:q196 s suffix=some r):q195 s suffix=some r :=
 qg7 (es:=q1ch) (hs:=[]) [] Tryz.func162 rfl (by kernel_rfl) rfl (by kernel_rfl) (by kernel_rfl) trivial trivial (by kernel_rfl) h
def q193:=entS Tryz.prog lv X0 162 [] q191 q192 (λx=>q195 x.1 x.2) (λ_ _ h=>qg5 h)
def q1ci:=q193::q1ch
def qib:=zu
def qic:Cod (V×List B) Bool:=zh
def qif (c:Int):=fS Tryz.prog lv X0 106 qib qic c
def qig (c:Int):Oq Bool :=
 (brE ((decide (c≥33))==true)
 (brE ((decide (c<=126))==true)
 (some (c != 58))
 (some false))
 (some false))
theorem qie {c r} (h:qig c=some r):qif c=some r :=
 qg7 (es:=q1ci) (hs:=[]) [] Tryz.func106 rfl (by kernel_rfl) rfl (by kernel_rfl) (by kernel_rfl) trivial trivial (by kernel_rfl) h
def qid:=entS Tryz.prog lv X0 106 [] qib qic (λx=>qif x) (λ_ _ h=>qg5 h)
def q1b6:=qid::q1ci
def q1z:Cod (List V) (BA×Unit):=(qpj (vC cStr) (qpl (vFn 106 qpk)))
def q29:=sLS [0,1,7,8] (qpj (vC cStr) (qpj (vFn 106 qpk) ze)) qpk [] [] (by decide) (λ_=>rfl)
def q28:=sLS [0,1,7,8,9] (qpj (vC cStr) (qpj (vFn 106 qpk) zg)) qpk [] [] (by decide) (λ_=>rfl)
def q27:=sLS [4] z11 qpk [] [] (by decide) (λ_=>rfl)
def q26:=oOr 1 q27 (oAt 2 q28) (λx=>(by decide:(2:Nat)≠1))
def q23 (s:BA) (t7 t8:Int):=lS Tryz.prog lv X0 78 18 (qk8 (cdF Tryz.f78) 2) q29 q26 ((s,(),t7,t8),())
def q2a (s:BA) (t7 t8:Int):Oq ((Bool×Unit)⊕((BA×Unit×Int×Int×Bool)×Unit)) :=
 (brE (decide (t8<t7))
 (gdE ((p0 t8)&&(decide ((Int.toNat t8)<s.size)))<|
 ((qif (((UInt8.toNat (Array.getD s.data (Int.toNat t8) (0:UInt8))):Nat):Int)).bind λr0 =>
 (brE (!r0)
 (some (.inl (false,())))
 (q23 s t7 (wI t8)))))
 (some (.inr ((s,((),(t7,(t8,false)))),()))))
theorem q25 {s t7 t8 r} (h:q2a s t7 t8=some r):q23 s t7 t8=some r :=
 qpn (es:=q1b6) (hs:=[]) [] (by kernel_rfl) trivial trivial (by kernel_rfl) h
def q24:=qqh Tryz.prog lv X0 2 (qk8 (cdF Tryz.f78) 2) q29 q26 (λx=>q23 x.1.1 x.1.2.2.1 x.1.2.2.2) (λ_ _ h=>qpm h)
def q20:Cod (V×List B) Bool:=zh
def q2d (s:BA):=fS Tryz.prog lv X0 78 q1z q20 (s,())
def q2f (s:BA):Oq Bool :=
 ((q23 s (s.size:Int) 0).bind λr0 =>
 (Sum.elim (λr1=>(some r1.1))
 (λr1=>(some true)) r0))
theorem q22 {s r} (h:q2f s=some r):q2d s=some r :=
 qg7 (es:=q1b6) (hs:=[]) [q24] Tryz.func78 rfl (by kernel_rfl) rfl (by kernel_rfl) (by kernel_rfl) ⟨⟨_,rfl,rfl⟩,trivial⟩ trivial (by kernel_rfl) h
def q21:=entS Tryz.prog lv X0 78 [106] q1z q20 (λx=>q2d x.1) (λ_ _ h=>qg5 h)
def q1aa:=q21::q1b6
def qih:=zk
def qii:Cod (V×List B) Bool:=zh
def qil (s:BA):=fS Tryz.prog lv X0 68 qih qii s
def qim (s:BA):Oq Bool :=
 (brE ((!(s.toList==(ByteArray.toList ⟨#[]⟩)))==true)
 (brE ((decide ((s.size:Int)<=60))==true)
 ((q2d s).bind λr0 =>
 (some r0))
 (some false))
 (some false))
theorem qik {s r} (h:qim s=some r):qil s=some r :=
 qg7 (es:=q1aa) (hs:=[]) [] Tryz.func68 rfl (by kernel_rfl) rfl (by kernel_rfl) (by kernel_rfl) trivial trivial (by kernel_rfl) h
def qij:=entS Tryz.prog lv X0 68 [] qih qii (λx=>qil x) (λ_ _ h=>qg5 h)
def q1b5:=qij::q1aa
def qi2:=zk
def qi3:Cod (V×List B) Bool:=zh
def qi6 (s:BA):=fS Tryz.prog lv X0 107 qi2 qi3 s
def qi7 (s:BA):Oq Bool :=
 ((canyP s (ByteArray.mk (List.toArray [13,10,0]))).bind λr0 =>
 (some r0))
theorem qi5 {s r} (h:qi7 s=some r):qi6 s=some r :=
 qg7 (es:=q1b5) (hs:=[]) [] Tryz.func107 rfl (by kernel_rfl) rfl (by kernel_rfl) (by kernel_rfl) trivial trivial (by kernel_rfl) h
def qi4:=entS Tryz.prog lv X0 107 [] qi2 qi3 (λx=>qi6 x) (λ_ _ h=>qg5 h)
def q1b4:=qi4::q1b5
def qj3:=zk
def qj4:Cod (V×List B) Bool:=zh
def qj7 (s:BA):=fS Tryz.prog lv X0 69 qj3 qj4 s
def qj8 (s:BA):Oq Bool :=
 ((qi6 s).bind λr0 =>
 (brE ((!r0)==true)
 (brE ((s.toList==(ByteArray.toList ⟨#[]⟩))==false)
 (gdE ((decide ((0:Int)<=0))&&(decide ((Int.toNat 0)<s.size)))<|
 ((q5c (((UInt8.toNat (Array.getD s.data (Int.toNat 0) (0:UInt8))):Nat):Int)).bind λr1 =>
 (brE ((!r1)==true)
 (gdE ((p0 (IntKind.wrap .i64 ((s.size:Int) - 1)))&&(decide ((Int.toNat (IntKind.wrap .i64 ((s.size:Int) - 1)))<s.size)))<|
 (Option.bind (q5c (((UInt8.toNat (Array.getD s.data (Int.toNat (IntKind.wrap .i64 ((s.size:Int) - 1))) (0:UInt8))):Nat):Int)) λr2 =>
 (some (!r2))))
 (some false))))
 (some true))
 (some false)))
theorem qj6 {s r} (h:qj8 s=some r):qj7 s=some r :=
 qg7 (es:=q1b4) (hs:=[]) [] Tryz.func69 rfl (by kernel_rfl) rfl (by kernel_rfl) (by kernel_rfl) trivial trivial (by kernel_rfl) h
def qj5:=entS Tryz.prog lv X0 69 [] qj3 qj4 (λx=>qj7 x) (λ_ _ h=>qg5 h)
def q1b8:=qj5::q1b4
def qio:=(qpj (vC cStr) (qpl zo))
def qiy:=sLS [0,5,6] (qpj (vC cStr) ze) qpk [] [] (by decide) (λ_=>rfl)
def qiw:=sLS [0,5,6,32] (qpj (vC cStr) zg) qpk [] [] (by decide) (λ_=>rfl)
def qix:SC ((BA×Int×Int×Bool)×Unit):=sLS [0,5,6,12] (qpj (vC cStr) (qpj (vC (cInt .i64)) (qpj (vC (cInt .i64)) (qpl (vC cBool))))) qpk [] [] (by decide) (λ_=>rfl)
def qiv:=oOrK 2 [0,5,6,12] qix (oAt 2 qiw) (λx y=>.inr (st_ne 12 (by decide:(false:Bool)≠true)))
def qis (s:BA) (best i:Int):=lS Tryz.prog lv X0 70 35 (qk8 (cdF Tryz.f70) 3) qiy qiv ((s,best,i),())
def qiz (s:BA) (best i:Int):Oq (((BA×Int×Int×Bool)×Unit)⊕((BA×Int×Int×Bool)×Unit)) :=
 (brE (decide (i<(s.size:Int)))
 (gdE ((p0 i)&&(decide ((Int.toNat i)<s.size)))<|
 ((q5c (((UInt8.toNat (Array.getD s.data (Int.toNat i) (0:UInt8))):Nat):Int)).bind λr0 =>
 (brE ((!r0)==false)
 (gdE ((p0 (IntKind.wrap .i64 (i - 1)))&&(decide ((Int.toNat (IntKind.wrap .i64 (i - 1)))<s.size)))<|
 (Option.bind (q5c (((UInt8.toNat (Array.getD s.data (Int.toNat (IntKind.wrap .i64 (i - 1))) (0:UInt8))):Nat):Int)) λr1 =>
 (brE r1
 (qis s best (wI i))
 (brE ((decide (best>0))==true)
 (brE (decide (i>78))
 (some (.inr ((s,(best,(i,true))),())))
 (qis s i (wI i)))
 (qis s i (wI i))))))
 (qis s best (wI i)))))
 (some (.inl ((s,(best,(i,false))),()))))
theorem qiu {s best i r} (h:qiz s best i=some r):qis s best i=some r :=
 qpn (es:=q1b8) (hs:=[]) [] (by kernel_rfl) trivial trivial (by kernel_rfl) h
def qit:=qqh Tryz.prog lv X0 3 (qk8 (cdF Tryz.f70) 3) qiy qiv (λx=>qis x.1.1 x.1.2.1 x.1.2.2) (λ_ _ h=>qpm h)
def qip:Cod (V×List B) Int:=(cFstU (cPair zo qpk))
def qj0 (s:BA) (from_:Int):=fS Tryz.prog lv X0 70 qio qip (s,from_)
def qj1 (s:BA) (from_:Int):Oq Int :=
 ((qis s 0 (ite (true=true) (ite (from_<1) 1 from_) (ite (1<from_) 1 from_))).bind λr0 =>
 (Sum.elim (λr1=>(some r1.1.2.1))
 (λr1=>(some r1.1.2.1)) r0))
theorem qir {s from_ r} (h:qj1 s from_=some r):qj0 s from_=some r :=
 qg7 (es:=q1b8) (hs:=[]) [qit] Tryz.func70 rfl (by kernel_rfl) rfl (by kernel_rfl) (by kernel_rfl) ⟨⟨_,rfl,rfl⟩,trivial⟩ trivial (by kernel_rfl) h
def qiq:=entS Tryz.prog lv X0 70 [] qio qip (λx=>qj0 x.1 x.2) (λ_ _ h=>qg5 h)
def q1b7:=qiq::q1b8
def qd2:EC BA where
 enc x:=[.str x]
 dec c:=q18t (c.getD 0 .ne)
 is c:=isE [.str] 0 c
 enc_dec h:=qc4 h
 dec_enc x:=by rfl
 is_enc x:=by simp [isE,isK]
theorem enc_9 (x:BA):qd2.enc x=[.str x]:=rfl
theorem qoo (xs:List BA) (n:Nat):isE [.str] 0 ((qd2.encL xs).getD n [])=decide (n<xs.length):=by
 by_cases h:n<xs.length
 ·simp only [EC.getD_lt _ _ h];simp [enc_9,isE,isK,h]
 ·simp only [EC.getD_ge _ _ (Nat.not_lt.1 h)];simp [isE,isK,h]
theorem q52 (xs:List BA) (n:Nat):q18t (((qd2.encL xs).getD n []).getD 0 .ne)=(xs.getD n (qd2.dec [])):=by
 by_cases h:n<xs.length
 ·simp only [EC.getD_lt _ _ h];simp [enc_9,h,q18t,qo4,q84,slOf,List.getD_eq_getElem?_getD]
 ·simp only [EC.getD_ge _ _ (Nat.not_lt.1 h)];simp [Nat.not_lt.1 h,qd2,q18t,qo4,q84,slOf,List.getD_eq_getElem?_getD,EC.decL,EC.encL]
theorem lit_9 (a0:BA):([.str a0]:List C)=qd2.enc a0:=rfl
theorem q46 (xs:List BA) (a0:BA):qd2.encL xs++[[.str a0]]=qd2.encL (xs++[a0]):=by rw [lit_9];simp [EC.encL]
theorem len_9 (xs:List BA) (n:Nat) (h:n<xs.length):((qd2.encL xs).getD n []).length=1:=by rw [EC.getD_lt _ _ h];rfl
theorem q3n (xs:List BA):(qd2.encL xs).all (λ(el:List C)=>el.length==1)=true:=by induction xs with|nil=>rfl|cons x xs ih=>first|(simp [EC.encL,enc_9];done)|simpa [EC.encL,enc_9] using ih
theorem q16b (xs:List BA) (n:Nat) (a0:BA):(qd2.encL xs).set n (splice ((qd2.encL xs).getD n []) 0 [.str a0])=qd2.encL (xs.set n (a0)):=by
 by_cases h:n<xs.length
 ·rw [EC.getD_lt _ _ h];simp [EC.encL,List.map_set,enc_9,splice,List.getD_eq_getElem?_getD,h]
 ·simp [EC.encL,List.set_eq_of_length_le,Nat.not_lt.1 h]
def qhf:=zw
abbrev zj:=(qpj (qu4 (bBox ze)) (qpl (qu4 (bRow qd2))))
def qhx:=sLS [5,6,7,8] (qpj (vPtr 0 0) (qpj (vC cStr) (qpj zo (qpl (vRow 1))))) zj [false,false] [] (by decide) (λ_=>rfl)
def qhv:=sLS [5,6,8,9,41] (qpj (vPtr 0 0) (qpj (vC cStr) (qpj (vRow 1) (qpj zo z11)))) zj [false,false] [] (by decide) (λ_=>rfl)
def qhw:SC ((Unit×BA×Int×Nat×Bool)×((Int×Int)×(List BA))):=sLS [5,6,7,8,36] (qpj (vPtr 0 0) (qpj (vC cStr) (qpj (vC (cInt .i64)) (qpj (vRow 1) (qpl (vC cBool)))))) (qpj (qu4 (bBox (qpj (vC (cInt .i64)) (qpl (vC (cInt .i64)))))) (qpl (qu4 (bRow qd2)))) [false,false] [] (by decide) (λ_=>rfl)
def qhu:=oOrK 3 [5,6,7,8,36] qhw (oAt 3 qhv) (λx y=>.inr (st_ne 7 (by decide:(false:Bool)≠true)))
def qhr (rest:BA) (from_:Int) (out:Nat) (b0 b0_1:Int) (b1:LB):=lS Tryz.prog lv X0 36 70 (qk8 (cdF Tryz.f36) 9) qhx qhu (((),rest,from_,out),((b0,b0_1),b1))
def qhy (rest:BA) (from_:Int) (out:Nat) (b0 b0_1:Int) (b1:LB):Oq (((Unit×BA×Int×Nat×Bool)×((Int×Int)×LB))⊕((Unit×BA×Nat×Int×Bool)×((Int×Int)×LB))) :=
 (brE (decide ((rest.size:Int)>78))
 ((qj0 rest from_).bind λr0 =>
 (brE (r0==0)
 (gL qd2 b1<|
 (some (.inr (((),(rest,(out,(r0,true)))),((b0,b0_1),(dL qd2 b1))))))
 (gdE ((p0 r0)&&(decide (r0<=(rest.size:Int))))<|
 (gdE ((((aL [[(C.str (ByteArray.extract rest 0 (Int.toNat r0)))]] 1)&&(aL (EC.encL qd2 b1) 1))&&(dQ (out+(List.length [[(C.str (ByteArray.extract rest 0 (Int.toNat r0)))]])) 16))&&(decide ((out+(List.length [[(C.str (ByteArray.extract rest 0 (Int.toNat r0)))]]))<=9223372036854775807)))<|
 (gdE ((p0 r0)&&(decide (r0<=(rest.size:Int))))<|
 (gdE (EC.isL qd2 ((EC.encL qd2 b1)++[[(C.str (ByteArray.extract rest 0 (Int.toNat r0)))]]))<|
 (qhr (ByteArray.extract rest (Int.toNat r0) rest.size) 0 (out+(List.length [[(C.str (ByteArray.extract rest 0 (Int.toNat r0)))]])) b0 b0_1 (EC.decL qd2 ((EC.encL qd2 b1)++[[(C.str (ByteArray.extract rest 0 (Int.toNat r0)))]])))))))))
 (gL qd2 b1<|
 (some (.inl (((),(rest,(from_,(out,false)))),((b0,b0_1),(dL qd2 b1)))))))
theorem qht {rest from_ out b0 b0_1 b1 r} (h:qhy rest from_ out b0 b0_1 b1=some r):qhr rest from_ out b0 b0_1 b1=some r :=
 qpn (es:=q1b7) (hs:=[]) [] (by kernel_rfl) trivial trivial (by kernel_rfl) h
def qhs:=qqh Tryz.prog lv X0 9 (qk8 (cdF Tryz.f36) 9) qhx qhu (λx=>qhr x.1.2.1 x.1.2.2.1 x.1.2.2.2 x.2.1.1 x.2.1.2 x.2.2) (λ_ _ h=>qpm h)
def qhp:=sLS [5,8,55,56,57] (qpj (vPtr 0 0) (qpj (vRow 1) (qpj (vRow 1) ze))) zj [false,false] [] (by decide) (λ_=>rfl)
def qho:=sLS [5,8,55,56,57,58] (qpj (vPtr 0 0) (qpj (vRow 1) (qpj (vRow 1) zg))) zj [false,false] [] (by decide) (λ_=>rfl)
abbrev zq:=(qpl (qu4 (bBox ze)))
def qhn:=sLS [4,5] (qpj (vRow 0) (qpl (vPtr 1 0))) (qpj (qu4 (bRow qd2)) zq) [false,false] [] (by decide) (λ_=>rfl)
def qhm:=oOr 1 qhn (oAt 5 qho) (λx=>(by decide:(5:Nat)≠1))
def qhj (out t55:Nat) (t56 t57:Int) (b0 b0_1:Int) (b1:LB):=lS Tryz.prog lv X0 36 70 (qk8 (cdF Tryz.f36) 16) qhp qhm (((),out,t55,t56,t57),((b0,b0_1),b1))
def qhq (out t55:Nat) (t56 t57:Int) (b0 b0_1:Int) (b1:LB):Oq (((Nat×Unit)×(LB×(Int×Int)))⊕((Unit×Nat×Nat×Int×Int×Bool)×((Int×Int)×LB))) :=
 (brE (decide (t57<t56))
 (gdE ((p0 t57)&&(decide (t57<((t55:Nat):Int))))<|
 (gdE ((decide ((Int.toNat t57)<(lN qd2 b1)))&&((List.length (List.getD (EC.encL qd2 b1) (Int.toNat t57) []))==1))<|
 (gdE (isP [K1.str] 0 (List.getD (EC.encL qd2 b1) (Int.toNat t57) []))<|
 (brE (decide ((((ByteArray.size (q18t (List.getD (List.getD (EC.encL qd2 b1) (Int.toNat t57) []) 0 C.ne))):Nat):Int)>998))
 ((q62 1 t57).bind λr0 =>
 (some (.inl ((0,()),((EC.decL qd2 []),(r0.1,r0.2))))))
 (gL qd2 b1<|
 (qhj out t55 t56 (wI t57) b0 b0_1 (dL qd2 b1)))))))
 (gL qd2 b1<|
 (some (.inr (((),(out,(t55,(t56,(t57,false))))),((b0,b0_1),(dL qd2 b1)))))))
theorem qhl {out t55 t56 t57 b0 b0_1 b1 r} (h:qhq out t55 t56 t57 b0 b0_1 b1=some r):qhj out t55 t56 t57 b0 b0_1 b1=some r :=
 qpn (es:=q1b7) (hs:=[]) [] (by kernel_rfl) trivial trivial (by kernel_rfl) h
def qhk:=qqh Tryz.prog lv X0 16 (qk8 (cdF Tryz.f36) 16) qhp qhm (λx=>qhj x.1.2.1 x.1.2.2.1 x.1.2.2.2.1 x.1.2.2.2.2 x.2.1.1 x.2.1.2 x.2.2) (λ_ _ h=>qpm h)
abbrev zy:=(vTup (qpj (vRow 0) (qpl (vAgg ze))))
def qhg:Cod (V×List B) ((Nat×(Int×Int))×(List BA)):=(cPair zy (qpl (bRow qd2)))
def qhz (n v:BA):=fS Tryz.prog lv X0 36 qhf qhg (n,v)
def qi0 (n v:BA):Oq ((Nat×(Int×Int))×LB) :=
 ((qil n).bind λr0 =>
 (brE (!r0)
 ((q62 10 (-1)).bind λr1 =>
 (some ((0,(r1.1,r1.2)),(EC.decL qd2 []))))
 (brE (decide ((v.size:Int)>4000))
 ((q62 1 (-1)).bind λr1 =>
 (some ((0,(r1.1,r1.2)),(EC.decL qd2 []))))
 ((qj7 v).bind λr1 =>
 (brE (!r1)
 ((q62 11 (-1)).bind λr2 =>
 (some ((0,(r2.1,r2.2)),(EC.decL qd2 []))))
 (brE (decide ((((n.size+(ByteArray.size (ByteArray.mk (List.toArray [58,32])))):Nat):Int)>(Go.IntKind.max Go.IntKind.i64)))
 none
 (brE (decide (((((ByteArray.size (n++(ByteArray.mk (List.toArray [58,32]))))+v.size):Nat):Int)>(Go.IntKind.max Go.IntKind.i64)))
 none
 ((qhr ((n++(ByteArray.mk (List.toArray [58,32])))++v) (IntKind.wrap .i64 ((n.size:Int)+2)) 0 0 0 (EC.decL qd2 [])).bind λr2 =>
 (Sum.elim (λr3=>(gdE ((((aL [[(C.str r3.1.2.1)]] 1)&&(aL (EC.encL qd2 r3.2.2) 1))&&(dQ (r3.1.2.2.2.1+(List.length [[(C.str r3.1.2.1)]])) 16))&&(dM (r3.1.2.2.2.1+(List.length [[(C.str r3.1.2.1)]]))))<|
 (gdE (EC.isL qd2 ((EC.encL qd2 r3.2.2)++[[(C.str r3.1.2.1)]]))<|
 ((qhj (r3.1.2.2.2.1+(List.length [[(C.str r3.1.2.1)]])) (r3.1.2.2.2.1+(List.length [[(C.str r3.1.2.1)]])) (((r3.1.2.2.2.1+(List.length [[(C.str r3.1.2.1)]])):Nat):Int) 0 r3.2.1.1 r3.2.1.2 (EC.decL qd2 ((EC.encL qd2 r3.2.2)++[[(C.str r3.1.2.1)]]))).bind λr4 =>
 (Sum.elim (λr5=>(gdE (EC.isL qd2 (EC.encL qd2 r5.2.1))<|
 (some ((r5.1.1,(r5.2.2.1,r5.2.2.2)),(dL qd2 r5.2.1)))))
 (λr5=>(Option.bind q73 λr6 =>
 (gL qd2 r5.2.2<|
 (some ((r5.1.2.1,(r6.1,r6.2)),(dL qd2 r5.2.2)))))) r4)))))
 (λr3=>(gdE ((((aL [[(C.str r3.1.2.1)]] 1)&&(aL (EC.encL qd2 r3.2.2) 1))&&(dQ (r3.1.2.2.1+(List.length [[(C.str r3.1.2.1)]])) 16))&&(dM (r3.1.2.2.1+(List.length [[(C.str r3.1.2.1)]]))))<|
 (gdE (EC.isL qd2 ((EC.encL qd2 r3.2.2)++[[(C.str r3.1.2.1)]]))<|
 ((qhj (r3.1.2.2.1+(List.length [[(C.str r3.1.2.1)]])) (r3.1.2.2.1+(List.length [[(C.str r3.1.2.1)]])) (((r3.1.2.2.1+(List.length [[(C.str r3.1.2.1)]])):Nat):Int) 0 r3.2.1.1 r3.2.1.2 (EC.decL qd2 ((EC.encL qd2 r3.2.2)++[[(C.str r3.1.2.1)]]))).bind λr4 =>
 (Sum.elim (λr5=>(gdE (EC.isL qd2 (EC.encL qd2 r5.2.1))<|
 (some ((r5.1.1,(r5.2.2.1,r5.2.2.2)),(dL qd2 r5.2.1)))))
 (λr5=>(Option.bind q73 λr6 =>
 (gL qd2 r5.2.2<|
 (some ((r5.1.2.1,(r6.1,r6.2)),(dL qd2 r5.2.2)))))) r4))))) r2)))))))))
theorem qhi {n v r} (h:qi0 n v=some r):qhz n v=some r :=
 qg7 (es:=q1b7) (hs:=[]) [qhs,qhk] Tryz.func36 rfl (by kernel_rfl) rfl (by kernel_rfl) (by kernel_rfl) ⟨⟨_,rfl,rfl⟩,⟨_,rfl,rfl⟩,trivial⟩ trivial (by kernel_rfl) h
def qhh:=entS Tryz.prog lv X0 36 [] qhf qhg (λx=>qhz x.1 x.2) (λ_ _ h=>qg5 h)
def q1b3:=qhh::q1b7
structure S71 where
 Name:BA
 Value:BA
abbrev L71:=List S71
def qd0:EC S71 where
 enc x:=[.str x.Name,.str x.Value]
 dec c:=⟨q18t (c.getD 0 .ne),q18t (c.getD 1 .ne)⟩
 is c:=isE [.str,.str] 0 c
 enc_dec h:=qc4 h
 dec_enc x:=by rfl
 is_enc x:=by simp [isE,isK]
theorem qdd (x:S71):qd0.enc x=[.str x.Name,.str x.Value]:=rfl
theorem qom (xs:List S71) (n:Nat):isE [.str,.str] 0 ((qd0.encL xs).getD n [])=decide (n<xs.length):=by
 by_cases h:n<xs.length
 ·simp only [EC.getD_lt _ _ h];simp [qdd,isE,isK,h]
 ·simp only [EC.getD_ge _ _ (Nat.not_lt.1 h)];simp [isE,isK,h]
theorem q4y (xs:List S71) (n:Nat):q18t (((qd0.encL xs).getD n []).getD 0 .ne)=(xs.getD n (qd0.dec [])).Name:=by
 by_cases h:n<xs.length
 ·simp only [EC.getD_lt _ _ h];simp [qdd,h,q18t,qo4,q84,slOf,List.getD_eq_getElem?_getD]
 ·simp only [EC.getD_ge _ _ (Nat.not_lt.1 h)];simp [Nat.not_lt.1 h,qd0,q18t,qo4,q84,slOf,List.getD_eq_getElem?_getD,EC.decL,EC.encL]
theorem q4z (xs:List S71) (n:Nat):q18t (((qd0.encL xs).getD n []).getD 1 .ne)=(xs.getD n (qd0.dec [])).Value:=by
 by_cases h:n<xs.length
 ·simp only [EC.getD_lt _ _ h];simp [qdd,h,q18t,qo4,q84,slOf,List.getD_eq_getElem?_getD]
 ·simp only [EC.getD_ge _ _ (Nat.not_lt.1 h)];simp [Nat.not_lt.1 h,qd0,q18t,qo4,q84,slOf,List.getD_eq_getElem?_getD,EC.decL,EC.encL]
theorem lit_71 (a0:BA) (a1:BA):([.str a0,.str a1]:List C)=qd0.enc (⟨a0,a1⟩:S71):=rfl
theorem q44 (xs:List S71) (a0:BA) (a1:BA):qd0.encL xs++[[.str a0,.str a1]]=qd0.encL (xs++[(⟨a0,a1⟩:S71)]):=by rw [lit_71];simp [EC.encL]
theorem q3l (xs:List S71):(qd0.encL xs).all (λ(el:List C)=>el.length==2)=true:=by induction xs with|nil=>rfl|cons x xs ih=>first|(simp [EC.encL,qdd];done)|simpa [EC.encL,qdd] using ih
theorem q166 (xs:List S71) (n:Nat) (a0:BA) (a1:BA):(qd0.encL xs).set n (splice ((qd0.encL xs).getD n []) 0 [.str a0,.str a1])=qd0.encL (xs.set n ({ xs.getD n (qd0.dec []) with Name:=a0,Value:=a1 })):=by
 by_cases h:n<xs.length
 ·rw [EC.getD_lt _ _ h];simp [EC.encL,List.map_set,qdd,splice,List.getD_eq_getElem?_getD,h]
 ·simp [EC.encL,List.set_eq_of_length_le,Nat.not_lt.1 h]
theorem q165 (xs:List S71) (n:Nat) (a0:BA):(qd0.encL xs).set n (splice ((qd0.encL xs).getD n []) 0 [.str a0])=qd0.encL (xs.set n ({ xs.getD n (qd0.dec []) with Name:=a0 })):=by
 by_cases h:n<xs.length
 ·rw [EC.getD_lt _ _ h];simp [EC.encL,List.map_set,qdd,splice,List.getD_eq_getElem?_getD,h]
 ·simp [EC.encL,List.set_eq_of_length_le,Nat.not_lt.1 h]
theorem q167 (xs:List S71) (n:Nat) (a1:BA):(qd0.encL xs).set n (splice ((qd0.encL xs).getD n []) 1 [.str a1])=qd0.encL (xs.set n ({ xs.getD n (qd0.dec []) with Value:=a1 })):=by
 by_cases h:n<xs.length
 ·rw [EC.getD_lt _ _ h];simp [EC.encL,List.map_set,qdd,splice,List.getD_eq_getElem?_getD,h]
 ·simp [EC.encL,List.set_eq_of_length_le,Nat.not_lt.1 h]
abbrev zr:=(vC (cSl qd0))
def qle:=(qpl zr)
def qlo:=sLS [2,11,12,13] (qpj (vPtr 0 0) (qpj zr ze)) zq [false] [] (by decide) (λ_=>rfl)
def qln:=sLS [2,11,12,13,14] (qpj (vPtr 0 0) (qpj zr zg)) zq [false] [] (by decide) (λ_=>rfl)
def qlm:=sLS [2] (qpl (vPtr 0 0)) zq [false] [] (by decide) (λ_=>rfl)
def qll:=oOr 1 qlm (oAt 2 qln) (λx=>(by decide:(2:Nat)≠1))
def qli (t11:L71) (t12 t13:Int) (b0 b0_1:Int):=lS Tryz.prog lv X0 20 34 (qk8 (cdF Tryz.f20) 4) qlo qll (((),t11,t12,t13),(b0,b0_1))
def qlp (t11:L71) (t12 t13:Int) (b0 b0_1:Int):Oq ((Unit×(Int×Int))⊕((Unit×L71×Int×Int×Bool)×(Int×Int))) :=
 (brE (decide (t13<t12))
 (gdE (p0 t13)<|
 (gdE (eC qd0 t11 t13 [K1.str,K1.str])<|
 ((qhz (q18t (List.getD (List.getD (EC.encL qd0 t11) (Int.toNat t13) []) 0 C.ne)) (q18t (List.getD (List.getD (EC.encL qd0 t11) (Int.toNat t13) []) 1 C.ne))).bind λr0 =>
 ((q5w r0.1.2.1 r0.1.2.2).bind λr1 =>
 (brE r1
 ((q62 r0.1.2.1 t13).bind λr2 =>
 (some (.inl ((),(r2.1,r2.2)))))
 (gL qd0 t11<|
 (qli (dL qd0 t11) t12 (wI t13) b0 b0_1)))))))
 (gL qd0 t11<|
 (some (.inr (((),((dL qd0 t11),(t12,(t13,false)))),(b0,b0_1))))))
theorem qlk {t11 t12 t13 b0 b0_1 r} (h:qlp t11 t12 t13 b0 b0_1=some r):qli t11 t12 t13 b0 b0_1=some r :=
 qpn (es:=q1b3) (hs:=[]) [] (by kernel_rfl) trivial trivial (by kernel_rfl) h
def qlj:=qqh Tryz.prog lv X0 4 (qk8 (cdF Tryz.f20) 4) qlo qll (λx=>qli x.1.2.1 x.1.2.2.1 x.1.2.2.2 x.2.1 x.2.2) (λ_ _ h=>qpm h)
def qlf:Cod (V×List B) (Int×Int):=zm
def qlq (l:L71):=fS Tryz.prog lv X0 20 qle qlf l
def qlr (l:L71):Oq (Int×Int) :=
 (brE (decide ((lN qd0 l:Int)>60))
 ((q62 2 (-1)).bind λr0 =>
 (some (r0.1,r0.2)))
 (gL qd0 l<|
 ((qli (dL qd0 l) (lN qd0 l:Int) 0 0 0).bind λr0 =>
 (Sum.elim (λr1=>(some (r1.2.1,r1.2.2)))
 (λr1=>(Option.bind q73 λr2 =>
 (some (r2.1,r2.2)))) r0))))
theorem qlh {l r} (h:qlr l=some r):qlq l=some r :=
 qg7 (es:=q1b3) (hs:=[]) [qlj] Tryz.func20 rfl (by kernel_rfl) rfl (by kernel_rfl) (by kernel_rfl) ⟨⟨_,rfl,rfl⟩,trivial⟩ trivial (by kernel_rfl) h
def qlg:=entS Tryz.prog lv X0 20 [] qle qlf (λx=>qlq x) (λ_ _ h=>qg5 h)
def q1bc:=qlg::q1b3
def qls:=zk
def qlt:Cod (V×List B) Bool:=zh
def qlw (s:BA):=fS Tryz.prog lv X0 194 qls qlt s
def qlx (s:BA):Oq Bool :=
 ((qhz s ⟨#[]⟩).bind λr0 =>
 ((q5w r0.1.2.1 r0.1.2.2).bind λr1 =>
 (some (!r1))))
theorem qlv {s r} (h:qlx s=some r):qlw s=some r :=
 qg7 (es:=q1bc) (hs:=[]) [] Tryz.func194 rfl (by kernel_rfl) rfl (by kernel_rfl) (by kernel_rfl) trivial trivial (by kernel_rfl) h
def qlu:=entS Tryz.prog lv X0 194 [] qls qlt (λx=>qlw x) (λ_ _ h=>qg5 h)
def q1bd:=qlu::q1bc
def qly:=(qpj zr zk)
def qlz:Cod (V×List B) (Int×Int):=zm
def qm2 (l:L71) (n:BA):=fS Tryz.prog lv X0 166 qly qlz (l,n)
def qm3 (l:L71) (n:BA):Oq (Int×Int) :=
 (gL qd0 l<|
 ((qlq (dL qd0 l)).bind λr0 =>
 ((q5w r0.1 r0.2).bind λr1 =>
 (brE r1
 (some (r0.1,r0.2))
 ((qlw n).bind λr2 =>
 (brE (!r2)
 ((q62 10 (-3)).bind λr3 =>
 (some (r3.1,r3.2)))
 (Option.bind q73 λr3 =>
 (some (r3.1,r3.2)))))))))
theorem qm1 {l n r} (h:qm3 l n=some r):qm2 l n=some r :=
 qg7 (es:=q1bd) (hs:=[]) [] Tryz.func166 rfl (by kernel_rfl) rfl (by kernel_rfl) (by kernel_rfl) trivial trivial (by kernel_rfl) h
def qm0:=entS Tryz.prog lv X0 166 [] qly qlz (λx=>qm2 x.1 x.2) (λ_ _ h=>qg5 h)
def q1be:=qm0::q1bd
def ql1:=(qpj zr zk)
def qla:=sLS [1,5,7,16,17,18] (qpj (vC cStr) (qpj (vPtr 0 0) (qpj (vRow 1) (qpj zr ze)))) zj [false,false] [] (by decide) (λ_=>rfl)
def ql9:=sLS [1,5,7,16,17,18,19] (qpj (vC cStr) (qpj (vPtr 0 0) (qpj (vRow 1) (qpj zr zg)))) zj [false,false] [] (by decide) (λ_=>rfl)
def ql8:=oAt 2 ql9
def ql5 (n:BA) (out:Nat) (t16:L71) (t17 t18:Int) (b0 b0_1:Int) (b1:LB):=lS Tryz.prog lv X0 146 34 (qk8 (cdF Tryz.f146) 6) qla ql8 ((n,(),out,t16,t17,t18),((b0,b0_1),b1))
def qlb (n:BA) (out:Nat) (t16:L71) (t17 t18:Int) (b0 b0_1:Int) (b1:LB):Oq ((BA×Unit×Nat×L71×Int×Int×Bool)×((Int×Int)×LB)) :=
 (brE (decide (t18<t17))
 (gdE (p0 t18)<|
 (gdE (eC qd0 t16 t18 [K1.str,K1.str])<|
 ((q79 (q18t (List.getD (List.getD (EC.encL qd0 t16) (Int.toNat t18) []) 0 C.ne)) n).bind λr0 =>
 (brE r0
 (gdE ((((aL [[(C.str (q18t (List.getD (List.getD (EC.encL qd0 t16) (Int.toNat t18) []) 1 C.ne)))]] 1)&&(aL (EC.encL qd2 b1) 1))&&(dQ (out+(List.length [[(C.str (q18t (List.getD (List.getD (EC.encL qd0 t16) (Int.toNat t18) []) 1 C.ne)))]])) 16))&&(decide ((out+(List.length [[(C.str (q18t (List.getD (List.getD (EC.encL qd0 t16) (Int.toNat t18) []) 1 C.ne)))]]))<=9223372036854775807)))<|
 (gL qd0 t16<|
 (gdE (EC.isL qd2 ((EC.encL qd2 b1)++[[(C.str (q18t (List.getD (List.getD (EC.encL qd0 t16) (Int.toNat t18) []) 1 C.ne)))]]))<|
 (ql5 n (out+(List.length [[(C.str (q18t (List.getD (List.getD (EC.encL qd0 t16) (Int.toNat t18) []) 1 C.ne)))]])) (dL qd0 t16) t17 (wI t18) b0 b0_1 (EC.decL qd2 ((EC.encL qd2 b1)++[[(C.str (q18t (List.getD (List.getD (EC.encL qd0 t16) (Int.toNat t18) []) 1 C.ne)))]]))))))
 (gL qd0 t16<|
 (gL qd2 b1<|
 (ql5 n out (dL qd0 t16) t17 (wI t18) b0 b0_1 (dL qd2 b1))))))))
 (gL qd0 t16<|
 (gL qd2 b1<|
 (some ((n,((),(out,((dL qd0 t16),(t17,(t18,false)))))),((b0,b0_1),(dL qd2 b1)))))))
theorem ql7 {n out t16 t17 t18 b0 b0_1 b1 r} (h:qlb n out t16 t17 t18 b0 b0_1 b1=some r):ql5 n out t16 t17 t18 b0 b0_1 b1=some r :=
 qpn (es:=q1be) (hs:=[]) [] (by kernel_rfl) trivial trivial (by kernel_rfl) h
def ql6:=qqh Tryz.prog lv X0 6 (qk8 (cdF Tryz.f146) 6) qla ql8 (λx=>ql5 x.1.1 x.1.2.2.1 x.1.2.2.2.1 x.1.2.2.2.2.1 x.1.2.2.2.2.2 x.2.1.1 x.2.1.2 x.2.2) (λ_ _ h=>qpm h)
def ql2:Cod (V×List B) ((Nat×(Int×Int))×(List BA)):=(cPair zy (qpl (bRow qd2)))
def qlc (l:L71) (n:BA):=fS Tryz.prog lv X0 146 ql1 ql2 (l,n)
def qld (l:L71) (n:BA):Oq ((Nat×(Int×Int))×LB) :=
 (gL qd0 l<|
 ((qm2 (dL qd0 l) n).bind λr0 =>
 ((q5w r0.1 r0.2).bind λr1 =>
 (brE r1
 (some ((0,(r0.1,r0.2)),(EC.decL qd2 [])))
 (gL qd0 l<|
 ((ql5 n 0 (dL qd0 l) (lN qd0 l:Int) 0 0 0 (EC.decL qd2 [])).bind λr2 =>
 (Option.bind q73 λr3 =>
 (gL qd2 r2.2.2<|
 (some ((r2.1.2.2.1,(r3.1,r3.2)),(dL qd2 r2.2.2)))))))))))
theorem ql4 {l n r} (h:qld l n=some r):qlc l n=some r :=
 qg7 (es:=q1be) (hs:=[]) [ql6] Tryz.func146 rfl (by kernel_rfl) rfl (by kernel_rfl) (by kernel_rfl) ⟨⟨_,rfl,rfl⟩,trivial⟩ trivial (by kernel_rfl) h
def ql3:=entS Tryz.prog lv X0 146 [] ql1 ql2 (λx=>qlc x.1 x.2) (λ_ _ h=>qg5 h)
def q1bb:=ql3::q1be
abbrev zi:=(qpj (vC (cSl qd0)) (qpl (vC (cSl qcy))))
def qsa:=(qpl (vAgg zi))
abbrev zx:=(qpj (qu4 (bBox zi)) (qpj (qu4 (bRow qcy)) (qpl (qu4 (bRow qd2)))))
def qsq:=sLS [1,3,11,12,13,25,26,27] (qpj (vPtr 0 0) (qpj (vRow 1) (qpj zr (qpj zo (qpj zo (qpj (vRow 2) ze)))))) zx [false,false,false] [] (by decide) (λ_=>rfl)
def qsp:=sLS [1,3,11,12,13,25,26,27,28] (qpj (vPtr 0 0) (qpj (vRow 1) (qpj zr (qpj zo (qpj zo (qpj (vRow 2) zg)))))) zx [false,false,false] [] (by decide) (λ_=>rfl)
def qso:=oAt 4 qsp
def qsl (out:Nat) (t11:L71) (t12 t13:Int) (t25:Nat) (t26 t27:Int) (b0:L71) (b0_1:(List Int)) (b1:(List Int)) (b2:LB):=lS Tryz.prog lv X0 21 44 (qk8 (cdF Tryz.f21) 7) qsq qso (((),out,t11,t12,t13,t25,t26,t27),((b0,b0_1),b1,b2))
def qsr (out:Nat) (t11:L71) (t12 t13:Int) (t25:Nat) (t26 t27:Int) (b0:L71) (b0_1:(List Int)) (b1:(List Int)) (b2:LB):Oq ((Unit×Nat×L71×Int×Int×Nat×Int×Int×Bool)×((L71×(List Int))×(List Int)×LB)) :=
 (brE (decide (t27<t26))
 (gdE ((p0 t27)&&(decide (t27<((t25:Nat):Int))))<|
 (gdE ((decide ((Int.toNat t27)<(lN qd2 b2)))&&((List.length (List.getD (EC.encL qd2 b2) (Int.toNat t27) []))==1))<|
 (gdE (isP [K1.str] 0 (List.getD (EC.encL qd2 b2) (Int.toNat t27) []))<|
 (gdE ((((aL (List.map (λ(b:UInt8)=>[(byteC b)]) (Array.toList (ByteArray.data (q18t (List.getD (List.getD (EC.encL qd2 b2) (Int.toNat t27) []) 0 C.ne))))) 1)&&(aL (EC.encL qcy b1) 1))&&(dQ (out+(List.length (List.map (λ(b:UInt8)=>[(byteC b)]) (Array.toList (ByteArray.data (q18t (List.getD (List.getD (EC.encL qd2 b2) (Int.toNat t27) []) 0 C.ne))))))) 1))&&(decide ((out+(List.length (List.map (λ(b:UInt8)=>[(byteC b)]) (Array.toList (ByteArray.data (q18t (List.getD (List.getD (EC.encL qd2 b2) (Int.toNat t27) []) 0 C.ne)))))))<=9223372036854775807)))<|
 (gdE ((((aL [[(C.int Go.IntKind.u8 13)],[(C.int Go.IntKind.u8 10)]] 1)&&(aL ((EC.encL qcy b1)++(List.map (λ(b:UInt8)=>[(byteC b)]) (Array.toList (ByteArray.data (q18t (List.getD (List.getD (EC.encL qd2 b2) (Int.toNat t27) []) 0 C.ne)))))) 1))&&(dQ ((out+(List.length (List.map (λ(b:UInt8)=>[(byteC b)]) (Array.toList (ByteArray.data (q18t (List.getD (List.getD (EC.encL qd2 b2) (Int.toNat t27) []) 0 C.ne)))))))+(List.length [[(C.int Go.IntKind.u8 13)],[(C.int Go.IntKind.u8 10)]])) 1))&&(decide (((out+(List.length (List.map (λ(b:UInt8)=>[(byteC b)]) (Array.toList (ByteArray.data (q18t (List.getD (List.getD (EC.encL qd2 b2) (Int.toNat t27) []) 0 C.ne)))))))+(List.length [[(C.int Go.IntKind.u8 13)],[(C.int Go.IntKind.u8 10)]]))<=9223372036854775807)))<|
 (gL qd0 t11<|
 (gL qd0 b0<|
 (gL qcy b0_1<|
 (gdE (EC.isL qcy (((EC.encL qcy b1)++(List.map (λ(b:UInt8)=>[(byteC b)]) (Array.toList (ByteArray.data (q18t (List.getD (List.getD (EC.encL qd2 b2) (Int.toNat t27) []) 0 C.ne))))))++[[(C.int Go.IntKind.u8 13)],[(C.int Go.IntKind.u8 10)]]))<|
 (gL qd2 b2<|
 (qsl ((out+(List.length (List.map (λ(b:UInt8)=>[(byteC b)]) (Array.toList (ByteArray.data (q18t (List.getD (List.getD (EC.encL qd2 b2) (Int.toNat t27) []) 0 C.ne)))))))+(List.length [[(C.int Go.IntKind.u8 13)],[(C.int Go.IntKind.u8 10)]])) (dL qd0 t11) t12 t13 t25 t26 (wI t27) (dL qd0 b0) (dL qcy b0_1) (EC.decL qcy (((EC.encL qcy b1)++(List.map (λ(b:UInt8)=>[(byteC b)]) (Array.toList (ByteArray.data (q18t (List.getD (List.getD (EC.encL qd2 b2) (Int.toNat t27) []) 0 C.ne))))))++[[(C.int Go.IntKind.u8 13)],[(C.int Go.IntKind.u8 10)]])) (dL qd2 b2))))))))))))
 (gL qd0 t11<|
 (gL qd0 b0<|
 (gL qcy b0_1<|
 (gL qcy b1<|
 (gL qd2 b2<|
 (some (((),(out,((dL qd0 t11),(t12,(t13,(t25,(t26,(t27,false)))))))),(((dL qd0 b0),(dL qcy b0_1)),((dL qcy b1),(dL qd2 b2)))))))))))
theorem qsn {out t11 t12 t13 t25 t26 t27 b0 b0_1 b1 b2 r} (h:qsr out t11 t12 t13 t25 t26 t27 b0 b0_1 b1 b2=some r):qsl out t11 t12 t13 t25 t26 t27 b0 b0_1 b1 b2=some r :=
 qpn (es:=q1bb) (hs:=[]) [] (by kernel_rfl) trivial trivial (by kernel_rfl) h
def qsm:=qqh Tryz.prog lv X0 7 (qk8 (cdF Tryz.f21) 7) qsq qso (λx=>qsl x.1.2.1 x.1.2.2.1 x.1.2.2.2.1 x.1.2.2.2.2.1 x.1.2.2.2.2.2.1 x.1.2.2.2.2.2.2.1 x.1.2.2.2.2.2.2.2 x.2.1.1 x.2.1.2 x.2.2.1 x.2.2.2) (λ_ _ h=>qpm h)
def qsj:=sLS [1,3,11,12,13] (qpj (vPtr 0 0) (qpj (vRow 1) (qpj zr ze))) (qpj (qu4 (bBox zi)) z10) [false,false] [] (by decide) (λ_=>rfl)
def qsi:=sLS [1,3,11,12,13,14] (qpj (vPtr 0 0) (qpj (vRow 1) (qpj zr zg))) (qpj (qu4 (bBox zi)) z10) [false,false] [] (by decide) (λ_=>rfl)
def qsh:=oAt 2 qsi
def qse (out:Nat) (t11:L71) (t12 t13:Int) (b0:L71) (b0_1:(List Int)) (b1:(List Int)):=lS Tryz.prog lv X0 21 44 (qk8 (cdF Tryz.f21) 3) qsj qsh (((),out,t11,t12,t13),((b0,b0_1),b1))
def qsk (out:Nat) (t11:L71) (t12 t13:Int) (b0:L71) (b0_1:(List Int)) (b1:(List Int)):Oq ((Unit×Nat×L71×Int×Int×Bool)×((L71×(List Int))×(List Int))) :=
 (brE (decide (t13<t12))
 (gdE (p0 t13)<|
 (gdE (eC qd0 t11 t13 [K1.str,K1.str])<|
 ((qhz (q18t (List.getD (List.getD (EC.encL qd0 t11) (Int.toNat t13) []) 0 C.ne)) (q18t (List.getD (List.getD (EC.encL qd0 t11) (Int.toNat t13) []) 1 C.ne))).bind λr0 =>
 (gL qd0 t11<|
 (gL qd0 b0<|
 (gL qcy b0_1<|
 (gL qcy b1<|
 (gL qd2 r0.2<|
 ((qsl out (dL qd0 t11) t12 t13 r0.1.1 ((r0.1.1:Nat):Int) 0 (dL qd0 b0) (dL qcy b0_1) (dL qcy b1) (dL qd2 r0.2)).bind λr1 =>
 (gL qd0 r1.1.2.2.1<|
 (gL qd0 r1.2.1.1<|
 (gL qcy r1.2.1.2<|
 (gL qcy r1.2.2.1<|
 (qse r1.1.2.1 (dL qd0 r1.1.2.2.1) r1.1.2.2.2.1 (wI r1.1.2.2.2.2.1) (dL qd0 r1.2.1.1) (dL qcy r1.2.1.2) (dL qcy r1.2.2.1)))))))))))))))
 (gL qd0 t11<|
 (gL qd0 b0<|
 (gL qcy b0_1<|
 (gL qcy b1<|
 (some (((),(out,((dL qd0 t11),(t12,(t13,false))))),(((dL qd0 b0),(dL qcy b0_1)),(dL qcy b1)))))))))
theorem qsg {out t11 t12 t13 b0 b0_1 b1 r} (h:qsk out t11 t12 t13 b0 b0_1 b1=some r):qse out t11 t12 t13 b0 b0_1 b1=some r :=
 qpn (es:=q1bb) (hs:=[]) [qsm] (by kernel_rfl) ⟨⟨_,rfl,rfl⟩,trivial⟩ trivial (by kernel_rfl) h
def qsf:=qqh Tryz.prog lv X0 3 (qk8 (cdF Tryz.f21) 3) qsj qsh (λx=>qse x.1.2.1 x.1.2.2.1 x.1.2.2.2.1 x.1.2.2.2.2 x.2.1.1 x.2.1.2 x.2.2) (λ_ _ h=>qpm h)
def qsb:Cod (V×List B) (Nat×(List Int)):=(cPair (vRow 0) (qpl (bRow qcy)))
def qss (qre:L71) (qra:(List Int)):=fS Tryz.prog lv X0 21 qsa qsb (qre,qra)
def qst (qre:L71) (qra:(List Int)):Oq (Nat×(List Int)) :=
 (gL qd0 qre<|
 (gL qd0 qre<|
 (gL qcy qra<|
 ((qse 0 (dL qd0 qre) (lN qd0 qre:Int) 0 (dL qd0 qre) (dL qcy qra) (EC.decL qcy [])).bind λr0 =>
 (gdE ((((aL [[(C.int Go.IntKind.u8 13)],[(C.int Go.IntKind.u8 10)]] 1)&&(aL (EC.encL qcy r0.2.2) 1))&&(dQ (r0.1.2.1+(List.length [[(C.int Go.IntKind.u8 13)],[(C.int Go.IntKind.u8 10)]])) 1))&&(decide ((r0.1.2.1+(List.length [[(C.int Go.IntKind.u8 13)],[(C.int Go.IntKind.u8 10)]]))<=9223372036854775807)))<|
 (gdE ((((aL (EC.encL qcy r0.2.1.2) 1)&&(aL ((EC.encL qcy r0.2.2)++[[(C.int Go.IntKind.u8 13)],[(C.int Go.IntKind.u8 10)]]) 1))&&(dQ ((r0.1.2.1+(List.length [[(C.int Go.IntKind.u8 13)],[(C.int Go.IntKind.u8 10)]]))+(lN qcy r0.2.1.2)) 1))&&(decide (((r0.1.2.1+(List.length [[(C.int Go.IntKind.u8 13)],[(C.int Go.IntKind.u8 10)]]))+(lN qcy r0.2.1.2))<=9223372036854775807)))<|
 (gdE (EC.isL qcy (((EC.encL qcy r0.2.2)++[[(C.int Go.IntKind.u8 13)],[(C.int Go.IntKind.u8 10)]])++(EC.encL qcy r0.2.1.2)))<|
 (some (((r0.1.2.1+(List.length [[(C.int Go.IntKind.u8 13)],[(C.int Go.IntKind.u8 10)]]))+(lN qcy r0.2.1.2)),(EC.decL qcy (((EC.encL qcy r0.2.2)++[[(C.int Go.IntKind.u8 13)],[(C.int Go.IntKind.u8 10)]])++(EC.encL qcy r0.2.1.2))))))))))))
theorem qsd {qre qra r} (h:qst qre qra=some r):qss qre qra=some r :=
 qg7 (es:=q1bb) (hs:=[]) [qsf] Tryz.func21 rfl (by kernel_rfl) rfl (by kernel_rfl) (by kernel_rfl) ⟨⟨_,rfl,rfl⟩,trivial⟩ trivial (by kernel_rfl) h
def qsc:=entS Tryz.prog lv X0 21 [] qsa qsb (λx=>qss x.1 x.2) (λ_ _ h=>qg5 h)
def q1bl:=qsc::q1bb
def qs4:=(qpl (vC (cSl qcy)))
def qs5:Cod (V×List B) (Int×Int):=zm
def qs8 (b:(List Int)):=fS Tryz.prog lv X0 22 qs4 qs5 b
def qs9 (b:(List Int)):Oq (Int×Int) :=
 (gL qcy b<|
 ((q5q (dL qcy b)).bind λr0 =>
 (brE (r0==11)
 ((q62 11 (-5)).bind λr1 =>
 (some (r1.1,r1.2)))
 (brE (r0==1)
 ((q62 1 (-6)).bind λr1 =>
 (some (r1.1,r1.2)))
 (Option.bind q73 λr1 =>
 (some (r1.1,r1.2)))))))
theorem qs7 {b r} (h:qs9 b=some r):qs8 b=some r :=
 qg7 (es:=q1bl) (hs:=[]) [] Tryz.func22 rfl (by kernel_rfl) rfl (by kernel_rfl) (by kernel_rfl) trivial trivial (by kernel_rfl) h
def qs6:=entS Tryz.prog lv X0 22 [] qs4 qs5 (λx=>qs8 x) (λ_ _ h=>qg5 h)
def q1bk:=qs6::q1bl
def qrs:=(qpl (vAgg zi))
def qrt:Cod (V×List B) (Int×Int):=zm
def qrw (qre:L71) (qra:(List Int)):=fS Tryz.prog lv X0 6 qrs qrt (qre,qra)
def qrx (qre:L71) (qra:(List Int)):Oq (Int×Int) :=
 (gL qd0 qre<|
 ((qlq (dL qd0 qre)).bind λr0 =>
 ((q5w r0.1 r0.2).bind λr1 =>
 (brE r1
 (some (r0.1,r0.2))
 (gL qd0 qre<|
 (gL qcy qra<|
 ((qss (dL qd0 qre) (dL qcy qra)).bind λr2 =>
 (brE (decide (((r2.1:Nat):Int)>12000))
 ((q62 1 (-4)).bind λr3 =>
 (some (r3.1,r3.2)))
 (gL qcy qra<|
 ((qs8 (dL qcy qra)).bind λr3 =>
 (some (r3.1,r3.2))))))))))))
theorem qrv {qre qra r} (h:qrx qre qra=some r):qrw qre qra=some r :=
 qg7 (es:=q1bk) (hs:=[]) [] Tryz.func6 rfl (by kernel_rfl) rfl (by kernel_rfl) (by kernel_rfl) trivial trivial (by kernel_rfl) h
def qru:=entS Tryz.prog lv X0 6 [] qrs qrt (λx=>qrw x.1 x.2) (λ_ _ h=>qg5 h)
def q1bi:=qru::q1bk
def qry:=(qpl (vAgg zi))
def qrz:Cod (V×List B) ((Nat×(Int×Int))×(List Int)):=(cPair zy (qpl (bRow qcy)))
def qs2 (qre:L71) (qra:(List Int)):=fS Tryz.prog lv X0 56 qry qrz (qre,qra)
def qs3 (qre:L71) (qra:(List Int)):Oq ((Nat×(Int×Int))×(List Int)) :=
 (gL qd0 qre<|
 (gL qcy qra<|
 ((qrw (dL qd0 qre) (dL qcy qra)).bind λr0 =>
 ((q5w r0.1 r0.2).bind λr1 =>
 (brE r1
 (some ((0,(r0.1,r0.2)),(EC.decL qcy [])))
 (gL qd0 qre<|
 (gL qcy qra<|
 ((qss (dL qd0 qre) (dL qcy qra)).bind λr2 =>
 (Option.bind q73 λr3 =>
 (gL qcy r2.2<|
 (some ((r2.1,(r3.1,r3.2)),(dL qcy r2.2)))))))))))))
theorem qs1 {qre qra r} (h:qs3 qre qra=some r):qs2 qre qra=some r :=
 qg7 (es:=q1bi) (hs:=[]) [] Tryz.func56 rfl (by kernel_rfl) rfl (by kernel_rfl) (by kernel_rfl) trivial trivial (by kernel_rfl) h
def qs0:=entS Tryz.prog lv X0 56 [] qry qrz (λx=>qs2 x.1 x.2) (λ_ _ h=>qg5 h)
def q1bj:=qs0::q1bi
def qds:=zu
def qdt:Cod (V×List B) Bool:=zh
def qdw (c:Int):=fS Tryz.prog lv X0 161 qds qdt c
def qdx (c:Int):Oq Bool :=
 (brE ((decide (c≥97))==true)
 (brE ((decide (c<=122))==false)
 (brE ((decide (c≥48))==true)
 (brE ((decide (c<=57))==false)
 (brE ((c==45)==false)
 (some (c==46))
 (some true))
 (some true))
 (brE ((c==45)==false)
 (some (c==46))
 (some true)))
 (some true))
 (brE ((decide (c≥48))==true)
 (brE ((decide (c<=57))==false)
 (brE ((c==45)==false)
 (some (c==46))
 (some true))
 (some true))
 (brE ((c==45)==false)
 (some (c==46))
 (some true))))
theorem qdv {c r} (h:qdx c=some r):qdw c=some r :=
 qg7 (es:=q1bj) (hs:=[]) [] Tryz.func161 rfl (by kernel_rfl) rfl (by kernel_rfl) (by kernel_rfl) trivial trivial (by kernel_rfl) h
def qdu:=entS Tryz.prog lv X0 161 [] qds qdt (λx=>qdw x) (λ_ _ h=>qg5 h)
def q1aw:=qdu::q1bj
def q1i:Cod (List V) (BA×Unit):=(qpj (vC cStr) (qpl (vFn 161 qpk)))
def q1s:=sLS [0,1,7,8] (qpj (vC cStr) (qpj (vFn 161 qpk) ze)) qpk [] [] (by decide) (λ_=>rfl)
def q1r:=sLS [0,1,7,8,9] (qpj (vC cStr) (qpj (vFn 161 qpk) zg)) qpk [] [] (by decide) (λ_=>rfl)
def q1q:=sLS [4] z11 qpk [] [] (by decide) (λ_=>rfl)
def q1p:=oOr 1 q1q (oAt 2 q1r) (λx=>(by decide:(2:Nat)≠1))
def q1m (s:BA) (t7 t8:Int):=lS Tryz.prog lv X0 78 18 (qk8 (cdF Tryz.f78) 2) q1s q1p ((s,(),t7,t8),())
def q1t (s:BA) (t7 t8:Int):Oq ((Bool×Unit)⊕((BA×Unit×Int×Int×Bool)×Unit)) :=
 (brE (decide (t8<t7))
 (gdE ((p0 t8)&&(decide ((Int.toNat t8)<s.size)))<|
 ((qdw (((UInt8.toNat (Array.getD s.data (Int.toNat t8) (0:UInt8))):Nat):Int)).bind λr0 =>
 (brE (!r0)
 (some (.inl (false,())))
 (q1m s t7 (wI t8)))))
 (some (.inr ((s,((),(t7,(t8,false)))),()))))
theorem q1o {s t7 t8 r} (h:q1t s t7 t8=some r):q1m s t7 t8=some r :=
 qpn (es:=q1aw) (hs:=[]) [] (by kernel_rfl) trivial trivial (by kernel_rfl) h
def q1n:=qqh Tryz.prog lv X0 2 (qk8 (cdF Tryz.f78) 2) q1s q1p (λx=>q1m x.1.1 x.1.2.2.1 x.1.2.2.2) (λ_ _ h=>qpm h)
def q1j:Cod (V×List B) Bool:=zh
def q1w (s:BA):=fS Tryz.prog lv X0 78 q1i q1j (s,())
def q1y (s:BA):Oq Bool :=
 ((q1m s (s.size:Int) 0).bind λr0 =>
 (Sum.elim (λr1=>(some r1.1))
 (λr1=>(some true)) r0))
theorem q1l {s r} (h:q1y s=some r):q1w s=some r :=
 qg7 (es:=q1aw) (hs:=[]) [q1n] Tryz.func78 rfl (by kernel_rfl) rfl (by kernel_rfl) (by kernel_rfl) ⟨⟨_,rfl,rfl⟩,trivial⟩ trivial (by kernel_rfl) h
def q1k:=entS Tryz.prog lv X0 78 [161] q1i q1j (λx=>q1w x.1) (λ_ _ h=>qg5 h)
def q1a9:=q1k::q1aw
def qdy:=zk
def qdz:Cod (V×List B) Bool:=zh
def qe2 (s:BA):=fS Tryz.prog lv X0 141 qdy qdz s
def qe3 (s:BA):Oq Bool :=
 (brE ((!(s.toList==(ByteArray.toList ⟨#[]⟩)))==true)
 (brE ((decide ((s.size:Int)<=60))==true)
 ((q1w s).bind λr0 =>
 (brE (r0==true)
 ((q18z s (ByteArray.mk (List.toArray [46]))).bind λr1 =>
 (brE ((!r1)==true)
 ((q195 s (ByteArray.mk (List.toArray [46]))).bind λr2 =>
 (brE ((!r2)==true)
 ((contP s (ByteArray.mk (List.toArray [46,46]))).bind λr3 =>
 (some (!r3)))
 (some false)))
 (some false)))
 (some false)))
 (some false))
 (some false))
theorem qe1 {s r} (h:qe3 s=some r):qe2 s=some r :=
 qg7 (es:=q1a9) (hs:=[]) [] Tryz.func141 rfl (by kernel_rfl) rfl (by kernel_rfl) (by kernel_rfl) trivial trivial (by kernel_rfl) h
def qe0:=entS Tryz.prog lv X0 141 [] qdy qdz (λx=>qe2 x) (λ_ _ h=>qg5 h)
def q1av:=qe0::q1a9
def qeo:=zu
def qep:Cod (V×List B) Bool:=zh
def qes (c:Int):=fS Tryz.prog lv X0 140 qeo qep c
def qet (c:Int):Oq Bool :=
 ((q68 c).bind λr0 =>
 (brE (r0==false)
 (some (decide ((Go.Lib.indexByte (Array.toList (List.toArray [(45:UInt8),(95:UInt8),(46:UInt8),(43:UInt8),(61:UInt8)])) (Nat.toUInt8 (Int.toNat c)))≥0)))
 (some true)))
theorem qer {c r} (h:qet c=some r):qes c=some r :=
 qg7 (es:=q1av) (hs:=[]) [] Tryz.func140 rfl (by kernel_rfl) rfl (by kernel_rfl) (by kernel_rfl) trivial trivial (by kernel_rfl) h
def qeq:=entS Tryz.prog lv X0 140 [] qeo qep (λx=>qes x) (λ_ _ h=>qg5 h)
def q1b0:=qeq::q1av
def q2h:Cod (List V) (BA×Unit):=(qpj (vC cStr) (qpl (vFn 140 qpk)))
def q2r:=sLS [0,1,7,8] (qpj (vC cStr) (qpj (vFn 140 qpk) ze)) qpk [] [] (by decide) (λ_=>rfl)
def q2q:=sLS [0,1,7,8,9] (qpj (vC cStr) (qpj (vFn 140 qpk) zg)) qpk [] [] (by decide) (λ_=>rfl)
def q2p:=sLS [4] z11 qpk [] [] (by decide) (λ_=>rfl)
def q2o:=oOr 1 q2p (oAt 2 q2q) (λx=>(by decide:(2:Nat)≠1))
def q2l (s:BA) (t7 t8:Int):=lS Tryz.prog lv X0 78 18 (qk8 (cdF Tryz.f78) 2) q2r q2o ((s,(),t7,t8),())
def q2s (s:BA) (t7 t8:Int):Oq ((Bool×Unit)⊕((BA×Unit×Int×Int×Bool)×Unit)) :=
 (brE (decide (t8<t7))
 (gdE ((p0 t8)&&(decide ((Int.toNat t8)<s.size)))<|
 ((qes (((UInt8.toNat (Array.getD s.data (Int.toNat t8) (0:UInt8))):Nat):Int)).bind λr0 =>
 (brE (!r0)
 (some (.inl (false,())))
 (q2l s t7 (wI t8)))))
 (some (.inr ((s,((),(t7,(t8,false)))),()))))
theorem q2n {s t7 t8 r} (h:q2s s t7 t8=some r):q2l s t7 t8=some r :=
 qpn (es:=q1b0) (hs:=[]) [] (by kernel_rfl) trivial trivial (by kernel_rfl) h
def q2m:=qqh Tryz.prog lv X0 2 (qk8 (cdF Tryz.f78) 2) q2r q2o (λx=>q2l x.1.1 x.1.2.2.1 x.1.2.2.2) (λ_ _ h=>qpm h)
def q2i:Cod (V×List B) Bool:=zh
def q2v (s:BA):=fS Tryz.prog lv X0 78 q2h q2i (s,())
def q2x (s:BA):Oq Bool :=
 ((q2l s (s.size:Int) 0).bind λr0 =>
 (Sum.elim (λr1=>(some r1.1))
 (λr1=>(some true)) r0))
theorem q2k {s r} (h:q2x s=some r):q2v s=some r :=
 qg7 (es:=q1b0) (hs:=[]) [q2m] Tryz.func78 rfl (by kernel_rfl) rfl (by kernel_rfl) (by kernel_rfl) ⟨⟨_,rfl,rfl⟩,trivial⟩ trivial (by kernel_rfl) h
def q2j:=entS Tryz.prog lv X0 78 [140] q2h q2i (λx=>q2v x.1) (λ_ _ h=>qg5 h)
def q1ab:=q2j::q1b0
def qeu:=zk
def qev:Cod (V×List B) (BA×BA×Bool):=(cFstU (cPair (vTup (qpj (vC cStr) (qpj (vC cStr) z11))) qpk))
def qey (s:BA):=fS Tryz.prog lv X0 119 qeu qev s
def qez (s:BA):Oq (BA×BA×Bool) :=
 ((cutP s (ByteArray.mk (List.toArray [64]))).bind λr0 =>
 (brE (r0.2.2==true)
 (brE ((!(r0.1.toList==(ByteArray.toList ⟨#[]⟩)))==true)
 (brE ((decide (((r0.1.size:Nat):Int)<=60))==true)
 ((q2v r0.1).bind λr1 =>
 (brE (r1==true)
 ((qe2 r0.2.1).bind λr2 =>
 (some (r0.1,(r0.2.1,r2))))
 (some (r0.1,(r0.2.1,false)))))
 (some (r0.1,(r0.2.1,false))))
 (some (r0.1,(r0.2.1,false))))
 (some (r0.1,(r0.2.1,false)))))
theorem qex {s r} (h:qez s=some r):qey s=some r :=
 qg7 (es:=q1ab) (hs:=[]) [] Tryz.func119 rfl (by kernel_rfl) rfl (by kernel_rfl) (by kernel_rfl) trivial trivial (by kernel_rfl) h
def qew:=entS Tryz.prog lv X0 119 [] qeu qev (λx=>qey x) (λ_ _ h=>qg5 h)
def q1az:=qew::q1ab
def qdm:=zk
def qdn:Cod (V×List B) Bool:=zh
def qdq (s:BA):=fS Tryz.prog lv X0 88 qdm qdn s
def qdr (s:BA):Oq Bool :=
 ((qey s).bind λr0 =>
 (some r0.2.2))
theorem qdp {s r} (h:qdr s=some r):qdq s=some r :=
 qg7 (es:=q1az) (hs:=[]) [] Tryz.func88 rfl (by kernel_rfl) rfl (by kernel_rfl) (by kernel_rfl) trivial trivial (by kernel_rfl) h
def qdo:=entS Tryz.prog lv X0 88 [] qdm qdn (λx=>qdq x) (λ_ _ h=>qg5 h)
def q1au:=qdo::q1az
def qe4:=(qpl zo)
def qe5:Cod (V×List B) Bool:=zh
def qe8 (n:Int):=fS Tryz.prog lv X0 120 qe4 qe5 n
def qe9 (n:Int):Oq Bool :=
 (brE ((decide (n≥0))==true)
 (some (decide (n<=7)))
 (some false))
theorem qe7 {n r} (h:qe9 n=some r):qe8 n=some r :=
 qg7 (es:=q1au) (hs:=[]) [] Tryz.func120 rfl (by kernel_rfl) rfl (by kernel_rfl) (by kernel_rfl) trivial trivial (by kernel_rfl) h
def qe6:=entS Tryz.prog lv X0 120 [] qe4 qe5 (λx=>qe8 x) (λ_ _ h=>qg5 h)
def q1ax:=qe6::q1au
abbrev zn:=(qpl (vEptr (qpj cStr (qpl (cInt .i64))) 0))
def qxh:=(qpj (vAgg (qpj (vC cStr) (qpl zo))) zn)
def qxi:Cod (V×List B) Bool:=zh
def qxl (q1ex:BA) (q1ey:Int) (c1_0:BA) (c1_1:Int):=fS Tryz.prog lv X0 122 qxh qxi ((q1ex,q1ey),(c1_0,c1_1))
def qxm (q1ex:BA) (q1ey:Int) (c1_0:BA) (c1_1:Int):Oq Bool :=
 (some (q1ex.toList==c1_0.toList))
theorem qxk {q1ex q1ey c1_0 c1_1 r} (h:qxm q1ex q1ey c1_0 c1_1=some r):qxl q1ex q1ey c1_0 c1_1=some r :=
 qg7 (es:=q1ax) (hs:=[]) [] Tryz.func122 rfl (by kernel_rfl) rfl (by kernel_rfl) (by kernel_rfl) trivial trivial (by kernel_rfl) h
def qxj:=entS Tryz.prog lv X0 122 [] qxh qxi (λx=>qxl x.1.1 x.1.2 x.2.1 x.2.2) (λ_ _ h=>qg5 h)
def q1c1:=qxj::q1ax
structure S73 where
 Address:BA
 Notify:Int
abbrev L73:=List S73
def qd1:EC S73 where
 enc x:=[.str x.Address,.int .i64 x.Notify]
 dec c:=⟨q18t (c.getD 0 .ne),qo4 (c.getD 1 .ne)⟩
 is c:=isE [.str,.int .i64] 0 c
 enc_dec h:=qc4 h
 dec_enc x:=by rfl
 is_enc x:=by simp [isE,isK]
theorem qde (x:S73):qd1.enc x=[.str x.Address,.int .i64 x.Notify]:=rfl
theorem qon (xs:List S73) (n:Nat):isE [.str,.int .i64] 0 ((qd1.encL xs).getD n [])=decide (n<xs.length):=by
 by_cases h:n<xs.length
 ·simp only [EC.getD_lt _ _ h];simp [qde,isE,isK,h]
 ·simp only [EC.getD_ge _ _ (Nat.not_lt.1 h)];simp [isE,isK,h]
theorem q50 (xs:List S73) (n:Nat):q18t (((qd1.encL xs).getD n []).getD 0 .ne)=(xs.getD n (qd1.dec [])).Address:=by
 by_cases h:n<xs.length
 ·simp only [EC.getD_lt _ _ h];simp [qde,h,q18t,qo4,q84,slOf,List.getD_eq_getElem?_getD]
 ·simp only [EC.getD_ge _ _ (Nat.not_lt.1 h)];simp [Nat.not_lt.1 h,qd1,q18t,qo4,q84,slOf,List.getD_eq_getElem?_getD,EC.decL,EC.encL]
theorem q51 (xs:List S73) (n:Nat):qo4 (((qd1.encL xs).getD n []).getD 1 .ne)=(xs.getD n (qd1.dec [])).Notify:=by
 by_cases h:n<xs.length
 ·simp only [EC.getD_lt _ _ h];simp [qde,h,q18t,qo4,q84,slOf,List.getD_eq_getElem?_getD]
 ·simp only [EC.getD_ge _ _ (Nat.not_lt.1 h)];simp [Nat.not_lt.1 h,qd1,q18t,qo4,q84,slOf,List.getD_eq_getElem?_getD,EC.decL,EC.encL]
theorem lit_73 (a0:BA) (a1:Int):([.str a0,.int .i64 a1]:List C)=qd1.enc (⟨a0,a1⟩:S73):=rfl
theorem q45 (xs:List S73) (a0:BA) (a1:Int):qd1.encL xs++[[.str a0,.int .i64 a1]]=qd1.encL (xs++[(⟨a0,a1⟩:S73)]):=by rw [lit_73];simp [EC.encL]
theorem q3m (xs:List S73):(qd1.encL xs).all (λ(el:List C)=>el.length==2)=true:=by induction xs with|nil=>rfl|cons x xs ih=>first|(simp [EC.encL,qde];done)|simpa [EC.encL,qde] using ih
theorem q169 (xs:List S73) (n:Nat) (a0:BA) (a1:Int):(qd1.encL xs).set n (splice ((qd1.encL xs).getD n []) 0 [.str a0,.int .i64 a1])=qd1.encL (xs.set n ({ xs.getD n (qd1.dec []) with Address:=a0,Notify:=a1 })):=by
 by_cases h:n<xs.length
 ·rw [EC.getD_lt _ _ h];simp [EC.encL,List.map_set,qde,splice,List.getD_eq_getElem?_getD,h]
 ·simp [EC.encL,List.set_eq_of_length_le,Nat.not_lt.1 h]
theorem q168 (xs:List S73) (n:Nat) (a0:BA):(qd1.encL xs).set n (splice ((qd1.encL xs).getD n []) 0 [.str a0])=qd1.encL (xs.set n ({ xs.getD n (qd1.dec []) with Address:=a0 })):=by
 by_cases h:n<xs.length
 ·rw [EC.getD_lt _ _ h];simp [EC.encL,List.map_set,qde,splice,List.getD_eq_getElem?_getD,h]
 ·simp [EC.encL,List.set_eq_of_length_le,Nat.not_lt.1 h]
theorem q16a (xs:List S73) (n:Nat) (a1:Int):(qd1.encL xs).set n (splice ((qd1.encL xs).getD n []) 1 [.int .i64 a1])=qd1.encL (xs.set n ({ xs.getD n (qd1.dec []) with Notify:=a1 })):=by
 by_cases h:n<xs.length
 ·rw [EC.getD_lt _ _ h];simp [EC.encL,List.map_set,qde,splice,List.getD_eq_getElem?_getD,h]
 ·simp [EC.encL,List.set_eq_of_length_le,Nat.not_lt.1 h]
abbrev zt:=(vC (cSl qd1))
def qn6:=(qpj zt (qpl (vFn 122 zn)))
def qng:=sLS [0,1,7,8] (qpj zt (qpj (vFn 122 zn) ze)) qpk [] [] (by decide) (λ_=>rfl)
def qnf:=sLS [0,1,7,8,9] (qpj zt (qpj (vFn 122 zn) zg)) qpk [] [] (by decide) (λ_=>rfl)
def qne:=sLS [4] (qpl zo) qpk [] [] (by decide) (λ_=>rfl)
def qnd:=oOr 1 qne (oAt 2 qnf) (λx=>(by decide:(2:Nat)≠1))
def qna (s:L73) (f:BA) (f_1 t7 t8:Int):=lS Tryz.prog lv X0 142 19 (qk8 (cdF Tryz.f142) 2) qng qnd ((s,(f,f_1),t7,t8),())
def qnh (s:L73) (f:BA) (f_1 t7 t8:Int):Oq ((Int×Unit)⊕((L73×(BA×Int)×Int×Int×Bool)×Unit)) :=
 (brE (decide (t8<t7))
 (gdE (p0 t8)<|
 (gdE (eC qd1 s t8 [K1.str,(K1.int Go.IntKind.i64)])<|
 ((qxl (q18t (List.getD (List.getD (EC.encL qd1 s) (Int.toNat t8) []) 0 C.ne)) (qo4 (List.getD (List.getD (EC.encL qd1 s) (Int.toNat t8) []) 1 C.ne)) f f_1).bind λr0 =>
 (brE r0
 (some (.inl (t8,())))
 (gL qd1 s<|
 (qna (dL qd1 s) f f_1 t7 (wI t8)))))))
 (gL qd1 s<|
 (some (.inr (((dL qd1 s),((f,f_1),(t7,(t8,false)))),())))))
theorem qnc {s f f_1 t7 t8 r} (h:qnh s f f_1 t7 t8=some r):qna s f f_1 t7 t8=some r :=
 qpn (es:=q1c1) (hs:=[]) [] (by kernel_rfl) trivial trivial (by kernel_rfl) h
def qnb:=qqh Tryz.prog lv X0 2 (qk8 (cdF Tryz.f142) 2) qng qnd (λx=>qna x.1.1 x.1.2.1.1 x.1.2.1.2 x.1.2.2.1 x.1.2.2.2) (λ_ _ h=>qpm h)
def qn7:Cod (V×List B) Int:=(cFstU (cPair zo qpk))
def qnj (s:L73) (f_0:BA) (f_1:Int):=fS Tryz.prog lv X0 142 qn6 qn7 (s,(f_0,f_1))
def qnk (s:L73) (f_0:BA) (f_1:Int):Oq Int :=
 (gL qd1 s<|
 ((qna (dL qd1 s) f_0 f_1 (lN qd1 s:Int) 0).bind λr0 =>
 (Sum.elim (λr1=>(some r1.1))
 (λr1=>(some (-1:Int))) r0)))
theorem qn9 {s f_0 f_1 r} (h:qnk s f_0 f_1=some r):qnj s f_0 f_1=some r :=
 qg7 (es:=q1c1) (hs:=[]) [qnb] Tryz.func142 rfl (by kernel_rfl) rfl (by kernel_rfl) (by kernel_rfl) ⟨⟨_,rfl,rfl⟩,trivial⟩ trivial (by kernel_rfl) h
def qn8:=entS Tryz.prog lv X0 142 [122] qn6 qn7 (λx=>qnj x.1 x.2.1 x.2.2) (λ_ _ h=>qg5 h)
def q1bf:=qn8::q1c1
def qkl:=(qpj zt (qpl (vFn 122 zn)))
def qkm:Cod (V×List B) Bool:=zh
def qkq (s:L73) (f_0:BA) (f_1:Int):=fS Tryz.prog lv X0 121 qkl qkm (s,(f_0,f_1))
def qkr (s:L73) (f_0:BA) (f_1:Int):Oq Bool :=
 (gL qd1 s<|
 ((qnj (dL qd1 s) f_0 f_1).bind λr0 =>
 (some (decide (r0≥0)))))
theorem qko {s f_0 f_1 r} (h:qkr s f_0 f_1=some r):qkq s f_0 f_1=some r :=
 qg7 (es:=q1bf) (hs:=[]) [] Tryz.func121 rfl (by kernel_rfl) rfl (by kernel_rfl) (by kernel_rfl) trivial trivial (by kernel_rfl) h
def qkn:=entS Tryz.prog lv X0 121 [122] qkl qkm (λx=>qkq x.1 x.2.1 x.2.2) (λ_ _ h=>qg5 h)
def q1b9:=qkn::q1bf
def qea:=(qpl zt)
def qek:=sLS [0,2,5,6,7] (qpj zt (qpj (vPtr 0 0) (qpj zt ze))) zq [false] [] (by decide) (λ_=>rfl)
def qej:=sLS [0,2,5,6,7,8] (qpj zt (qpj (vPtr 0 0) (qpj zt zg))) zq [false] [] (by decide) (λ_=>rfl)
def qei:=sLS [2] (qpl (vPtr 0 0)) zq [false] [] (by decide) (λ_=>rfl)
def qeh:=oOr 1 qei (oAt 2 qej) (λx=>(by decide:(2:Nat)≠1))
def qee (l t5:L73) (t6 t7:Int) (b0 b0_1:Int):=lS Tryz.prog lv X0 89 36 (qk8 (cdF Tryz.f89) 2) qek qeh ((l,(),t5,t6,t7),(b0,b0_1))
def qel (l t5:L73) (t6 t7:Int) (b0 b0_1:Int):Oq ((Unit×(Int×Int))⊕((L73×Unit×L73×Int×Int×Bool)×(Int×Int))) :=
 (brE (decide (t7<t6))
 (gdE (p0 t7)<|
 (gdE (eC qd1 t5 t7 [K1.str,(K1.int Go.IntKind.i64)])<|
 ((qdq (q18t (List.getD (List.getD (EC.encL qd1 t5) (Int.toNat t7) []) 0 C.ne))).bind λr0 =>
 (brE (!r0)
 ((q62 10 t7).bind λr1 =>
 (some (.inl ((),(r1.1,r1.2)))))
 ((qe8 (qo4 (List.getD (List.getD (EC.encL qd1 t5) (Int.toNat t7) []) 1 C.ne))).bind λr1 =>
 (brE (!r1)
 ((q62 3 t7).bind λr2 =>
 (some (.inl ((),(r2.1,r2.2)))))
 (gdE ((p0 t7)&&(decide (t7<=(lN qd1 l:Int))))<|
 (gdE (aL (EC.encL qd1 l) 2)<|
 (gdE (EC.isL qd1 (List.take ((Int.toNat t7) - 0) (List.drop 0 (EC.encL qd1 l))))<|
 ((qkq (EC.decL qd1 (List.take ((Int.toNat t7) - 0) (List.drop 0 (EC.encL qd1 l)))) (q18t (List.getD (List.getD (EC.encL qd1 t5) (Int.toNat t7) []) 0 C.ne)) (qo4 (List.getD (List.getD (EC.encL qd1 t5) (Int.toNat t7) []) 1 C.ne))).bind λr2 =>
 (brE r2
 ((q62 7 t7).bind λr3 =>
 (some (.inl ((),(r3.1,r3.2)))))
 (gL qd1 l<|
 (gL qd1 t5<|
 (qee (dL qd1 l) (dL qd1 t5) t6 (wI t7) b0 b0_1))))))))))))))
 (gL qd1 l<|
 (gL qd1 t5<|
 (some (.inr (((dL qd1 l),((),((dL qd1 t5),(t6,(t7,false))))),(b0,b0_1)))))))
theorem qeg {l t5 t6 t7 b0 b0_1 r} (h:qel l t5 t6 t7 b0 b0_1=some r):qee l t5 t6 t7 b0 b0_1=some r :=
 qpn (es:=q1b9) (hs:=[]) [] (by kernel_rfl) trivial trivial (by kernel_rfl) h
def qef:=qqh Tryz.prog lv X0 2 (qk8 (cdF Tryz.f89) 2) qek qeh (λx=>qee x.1.1 x.1.2.2.1 x.1.2.2.2.1 x.1.2.2.2.2 x.2.1 x.2.2) (λ_ _ h=>qpm h)
def qeb:Cod (V×List B) (Int×Int):=zm
def qem (l:L73):=fS Tryz.prog lv X0 89 qea qeb l
def qen (l:L73):Oq (Int×Int) :=
 (gL qd1 l<|
 (gL qd1 l<|
 ((qee (dL qd1 l) (dL qd1 l) (lN qd1 l:Int) 0 0 0).bind λr0 =>
 (Sum.elim (λr1=>(some (r1.2.1,r1.2.2)))
 (λr1=>(Option.bind q73 λr2 =>
 (some (r2.1,r2.2)))) r0))))
theorem qed {l r} (h:qen l=some r):qem l=some r :=
 qg7 (es:=q1b9) (hs:=[]) [qef] Tryz.func89 rfl (by kernel_rfl) rfl (by kernel_rfl) (by kernel_rfl) ⟨⟨_,rfl,rfl⟩,trivial⟩ trivial (by kernel_rfl) h
def qec:=entS Tryz.prog lv X0 89 [] qea qeb (λx=>qem x) (λ_ _ h=>qg5 h)
def q1ay:=qec::q1b9
def qf0:=(qpl (vAgg (qpj (vC cStr) (qpj zt zk))))
def qf1:Cod (V×List B) (Int×Int):=zm
def qf4 (e_From:BA) (e_To:L73) (e_Id:BA):=fS Tryz.prog lv X0 55 qf0 qf1 (e_From,e_To,e_Id)
def qf5 (e_From:BA) (e_To:L73) (e_Id:BA):Oq (Int×Int) :=
 (brE ((!(e_From.toList==(ByteArray.toList ⟨#[]⟩)))==true)
 ((qdq e_From).bind λr0 =>
 (brE (!r0)
 ((q62 10 (-10)).bind λr1 =>
 (some (r1.1,r1.2)))
 (brE ((decide ((lN qd1 e_To:Int)<1))==false)
 (brE (decide ((lN qd1 e_To:Int)>60))
 ((q62 2 (-11)).bind λr1 =>
 (some (r1.1,r1.2)))
 (brE ((!(e_Id.toList==(ByteArray.toList ⟨#[]⟩)))==true)
 ((q6x e_Id).bind λr1 =>
 (brE (!r1)
 ((q62 10 (-12)).bind λr2 =>
 (some (r2.1,r2.2)))
 (gL qd1 e_To<|
 ((qem (dL qd1 e_To)).bind λr2 =>
 (some (r2.1,r2.2))))))
 (gL qd1 e_To<|
 ((qem (dL qd1 e_To)).bind λr1 =>
 (some (r1.1,r1.2))))))
 ((q62 2 (-11)).bind λr1 =>
 (some (r1.1,r1.2))))))
 (brE ((decide ((lN qd1 e_To:Int)<1))==false)
 (brE (decide ((lN qd1 e_To:Int)>60))
 ((q62 2 (-11)).bind λr0 =>
 (some (r0.1,r0.2)))
 (brE ((!(e_Id.toList==(ByteArray.toList ⟨#[]⟩)))==true)
 ((q6x e_Id).bind λr0 =>
 (brE (!r0)
 ((q62 10 (-12)).bind λr1 =>
 (some (r1.1,r1.2)))
 (gL qd1 e_To<|
 ((qem (dL qd1 e_To)).bind λr1 =>
 (some (r1.1,r1.2))))))
 (gL qd1 e_To<|
 ((qem (dL qd1 e_To)).bind λr0 =>
 (some (r0.1,r0.2))))))
 ((q62 2 (-11)).bind λr0 =>
 (some (r0.1,r0.2)))))
theorem qf3 {e_From e_To e_Id r} (h:qf5 e_From e_To e_Id=some r):qf4 e_From e_To e_Id=some r :=
 qg7 (es:=q1ay) (hs:=[]) [] Tryz.func55 rfl (by kernel_rfl) rfl (by kernel_rfl) (by kernel_rfl) trivial trivial (by kernel_rfl) h
def qf2:=entS Tryz.prog lv X0 55 [] qf0 qf1 (λx=>qf4 x.1 x.2.1 x.2.2) (λ_ _ h=>qg5 h)
def q1b1:=qf2::q1ay
end
end Go.Proofs.YtmlcmoaonaomfaaGreatDoor
