/- Functions of the program as plain functions: made by program from the machine. -/
import Derived.Test.YtokahibbkdbndaaGreatDoorGB
namespace Go.Proofs.YtokahibbkdbndaaGreatDoor
open Go.RowKit
abbrev gL {τ β:Type} (e:EC τ) (l:List τ) (x:Option β):Option β:=gdE (EC.isL e (EC.encL e l)) x
abbrev dL {τ:Type} (e:EC τ) (l:List τ):List τ:=EC.decL e (EC.encL e l)
abbrev lN {τ:Type} (e:EC τ) (l:List τ):Nat:=List.length (EC.encL e l)
abbrev eC {τ:Type} (e:EC τ) (l:List τ) (i:Int) (k:List K1):Bool:=(decide ((Int.toNat i)<(List.length (EC.encL e l))))&&(isE k 0 (List.getD (EC.encL e l) (Int.toNat i) []))
abbrev wI (i:Int):Int:=IntKind.wrap .i64 (i+1)
abbrev p0 (i:Int):Bool:=decide (0≤i)
abbrev aL (l:List (List C)) (n:Nat):Bool:=List.all l (fun (el:(List C))=>((List.length el)==n))
abbrev dQ (n k:Nat):Bool:=decide ((((n+(n / 4))+192)*k)≤281474976710656)
abbrev dM (n:Nat):Bool:=decide (n≤9223372036854775807)
abbrev uL {τ:Type} (e:EC τ) (c:C):List τ:=EC.decL e (slOf c)
abbrev LB:=List ByteArray
abbrev BA:=ByteArray
abbrev Oq:=Option
set_option maxRecDepth 100000
noncomputable section
abbrev z32:=(qrd (vC (cInt .i64)) (qrf (vC (cInt .i64))))
def q5x:=z32
abbrev z39:=(cFstU (cPair (vAgg z32) (qre (ρ:=B))))
def q5y:Cod (V×List B) (Int×Int):=z39
def q61 (code at_:Int):=fS Tryz.prog lv X0 57 q5x q5y (code,at_)
def q62 (code at_:Int):Oq (Int×Int) :=
 (some (code,at_))
theorem q60 {code at_ r} (h:q62 code at_=some r):q61 code at_=some r :=
 qjn (es:=tab0) (hs:=[]) [] Tryz.func57 rfl (by kernel_rfl) rfl (by kernel_rfl) (by kernel_rfl) trivial trivial (by kernel_rfl) h
def q5z:=entS Tryz.prog lv X0 57 [] q5x q5y (fun x=>q61 x.1 x.2) (fun _ _ h=>qjm h)
def q1i8:=q5z::tab0
def q6y:Cod (List V) Unit:=qre
def q6z:Cod (V×List B) (Int×Int):=z39
def q72 :=fS Tryz.prog lv X0 59 q6y q6z ()
def q73 :Oq (Int×Int) :=
 (some (0,0))
theorem q71 {r} (h:q73 =some r):q72 =some r :=
 qjn (es:=q1i8) (hs:=[]) [] Tryz.func59 rfl (by kernel_rfl) rfl (by kernel_rfl) (by kernel_rfl) trivial trivial (by kernel_rfl) h
def q70:=entS Tryz.prog lv X0 59 [] q6y q6z (fun x=>q72 ) (fun _ _ h=>qjm h)
def q1id:=q70::q1i8
def q5r:=(qrf (vAgg z32))
abbrev z34:=(cFstU (cPair (vC cBool) (qre (ρ:=B))))
def q5s:Cod (V×List B) Bool:=z34
def q5v (f_Code f_Index:Int):=fS Tryz.prog lv X0 49 q5r q5s (f_Code,f_Index)
def q5w (f_Code f_Index:Int):Oq Bool :=
 (some (f_Code != 0))
theorem q5u {f_Code f_Index r} (h:q5w f_Code f_Index=some r):q5v f_Code f_Index=some r :=
 qjn (es:=q1id) (hs:=[]) [] Tryz.func49 rfl (by kernel_rfl) rfl (by kernel_rfl) (by kernel_rfl) trivial trivial (by kernel_rfl) h
def q5t:=entS Tryz.prog lv X0 49 [] q5r q5s (fun x=>q5v x.1 x.2) (fun _ _ h=>qjm h)
def q1i7:=q5t::q1id
abbrev z3f:=(qrf (vC (cInt .u8)))
def q63:=z3f
def q64:Cod (V×List B) Bool:=z34
def q67 (c:Int):=fS Tryz.prog lv X0 86 q63 q64 c
def q68 (c:Int):Oq Bool :=
 (brE ((decide (c≥97))==true)
 (brE ((decide (c≤122))==false)
 (brE ((decide (c≥65))==true)
 (brE ((decide (c≤90))==false)
 (brE ((decide (c≥48))==true)
 (some (decide (c≤57)))
 (some false))
 (some true))
 (brE ((decide (c≥48))==true)
 (some (decide (c≤57)))
 (some false)))
 (some true))
 (brE ((decide (c≥65))==true)
 (brE ((decide (c≤90))==false)
 (brE ((decide (c≥48))==true)
 (some (decide (c≤57)))
 (some false))
 (some true))
 (brE ((decide (c≥48))==true)
 (some (decide (c≤57)))
 (some false))))
theorem q66 {c r} (h:q68 c=some r):q67 c=some r :=
 qjn (es:=q1i7) (hs:=[]) [] Tryz.func86 rfl (by kernel_rfl) rfl (by kernel_rfl) (by kernel_rfl) trivial trivial (by kernel_rfl) h
def q65:=entS Tryz.prog lv X0 86 [] q63 q64 (fun x=>q67 x) (fun _ _ h=>qjm h)
def q1i9:=q65::q1i7
def q57:=z3f
def q58:Cod (V×List B) Bool:=z34
def q5b (c:Int):=fS Tryz.prog lv X0 146 q57 q58 c
def q5c (c:Int):Oq Bool :=
 (brE ((c==32)==false)
 (some (c==9))
 (some true))
theorem q5a {c r} (h:q5c c=some r):q5b c=some r :=
 qjn (es:=q1i9) (hs:=[]) [] Tryz.func146 rfl (by kernel_rfl) rfl (by kernel_rfl) (by kernel_rfl) trivial trivial (by kernel_rfl) h
def q59:=entS Tryz.prog lv X0 146 [] q57 q58 (fun x=>q5b x) (fun _ _ h=>qjm h)
def q1i5:=q59::q1i9
def qb0:EC Int where
 enc x:=[.int .u8 x]
 dec c:=qqd (c.getD 0 .ne)
 is c:=isE [.int .u8] 0 c
 enc_dec h:=q9x h
 dec_enc x:=by rfl
 is_enc x:=by simp [isE,isK]
theorem enc_5 (x:Int):qb0.enc x=[.int .u8 x]:=rfl
theorem isE_5 (xs:List Int) (n:Nat):isE [.int .u8] 0 ((qb0.encL xs).getD n [])=decide (n<xs.length):=by
 by_cases h:n<xs.length
 ·simp only [EC.getD_lt _ _ h];simp [enc_5,isE,isK,h]
 ·simp only [EC.getD_ge _ _ (Nat.not_lt.1 h)];simp [isE,isK,h]
theorem at_5_0 (xs:List Int) (n:Nat):qqd (((qb0.encL xs).getD n []).getD 0 .ne)=(xs.getD n (qb0.dec [])):=by
 by_cases h:n<xs.length
 ·simp only [EC.getD_lt _ _ h];simp [enc_5,h,qqd,List.getD_eq_getElem?_getD]
 ·simp only [EC.getD_ge _ _ (Nat.not_lt.1 h)];simp [Nat.not_lt.1 h,qb0,qqd,List.getD_eq_getElem?_getD]
theorem len_5 (xs:List Int) (n:Nat) (h:n<xs.length):((qb0.encL xs).getD n []).length=1:=by rw [EC.getD_lt _ _ h];rfl
theorem all_5 (xs:List Int):(qb0.encL xs).all (fun (el:List C)=>el.length==1)=true:=by induction xs with|nil=>rfl|cons x xs ih=>first|(simp [EC.encL,enc_5];done)|simpa [EC.encL,enc_5] using ih
theorem q1fu (xs:List Int) (n:Nat) (a0:Int):(qb0.encL xs).set n (splice ((qb0.encL xs).getD n []) 0 [.int .u8 a0])=qb0.encL (xs.set n (a0)):=by
 by_cases h:n<xs.length
 ·rw [EC.getD_lt _ _ h];simp [EC.encL,List.map_set,enc_5,splice]
 ·simp [EC.encL,List.set_eq_of_length_le,Nat.not_lt.1 h]
abbrev z38:=(qrf (vC cStr))
def q69:=z38
abbrev z3k:=(qrf (qv4 (bRow qb0)))
def q6i:=sLS [3,8,9,10] (qrd (vRow 0) (qrd (vRow 0) z32)) z3k [false] [] (by decide) (fun _=>rfl)
abbrev z33:=(qrd (vC (cInt .i64)) (qrd (vC (cInt .i64)) (qrf (vC cBool))))
def q6h:=sLS [3,8,9,10,11] (qrd (vRow 0) (qrd (vRow 0) z33)) z3k [false] [] (by decide) (fun _=>rfl)
def q6g:=oAt 2 q6h
def q6d (b t8:Nat) (t9 t10:Int) (b0:(List Int)):=lS Tryz.prog lv X0 154 30 (qnb (cdF Tryz.f154) 3) q6i q6g ((b,t8,t9,t10),b0)
abbrev z6 (t10:Int) (b0:(List Int)):=(List.getD (EC.encL qb0 b0) (Int.toNat t10) [])
def q6j (b t8:Nat) (t9 t10:Int) (b0:(List Int)):Oq ((Nat×Nat×Int×Int×Bool)×(List Int)) :=
 (brE (decide (t10<t9))
 (gdE ((p0 t10)&&(decide (t10<((t8:Nat):Int))))<|
 (gdE ((decide ((Int.toNat t10)<(lN qb0 b0)))&&((List.length (z6 t10 b0))==1))<|
 (gdE (isP [(K1.int Go.IntKind.u8)] 0 (z6 t10 b0))<|
 (brE ((decide ((qqd (List.getD (z6 t10 b0) 0 C.ne))≥65))==true)
 (brE (decide ((qqd (List.getD (z6 t10 b0) 0 C.ne))≤90))
 (gdE ((p0 t10)&&(decide (t10<((b:Nat):Int))))<|
 (gdE ((decide ((Int.toNat t10)<(lN qb0 b0)))&&((List.length (z6 t10 b0))==1))<|
 (gdE (EC.isL qb0 (List.set (EC.encL qb0 b0) (Int.toNat t10) (splice (z6 t10 b0) 0 [(C.int Go.IntKind.u8 (IntKind.wrap .u8 ((IntKind.wrap .u8 ((qqd (List.getD (z6 t10 b0) 0 C.ne))+97)) - 65)))])))<|
 (q6d b t8 t9 (wI t10) (EC.decL qb0 (List.set (EC.encL qb0 b0) (Int.toNat t10) (splice (z6 t10 b0) 0 [(C.int Go.IntKind.u8 (IntKind.wrap .u8 ((IntKind.wrap .u8 ((qqd (List.getD (z6 t10 b0) 0 C.ne))+97)) - 65)))])))))))
 (gL qb0 b0<|
 (q6d b t8 t9 (wI t10) (dL qb0 b0))))
 (gL qb0 b0<|
 (q6d b t8 t9 (wI t10) (dL qb0 b0)))))))
 (gL qb0 b0<|
 (some ((b,(t8,(t9,(t10,false)))),(dL qb0 b0)))))
theorem q6f {b t8 t9 t10 b0 r} (h:q6j b t8 t9 t10 b0=some r):q6d b t8 t9 t10 b0=some r :=
 qrh (es:=q1i5) (hs:=[]) [] (by kernel_rfl) trivial trivial (by kernel_rfl) h
def q6e:=qs5 Tryz.prog lv X0 3 (qnb (cdF Tryz.f154) 3) q6i q6g (fun x=>q6d x.1.1 x.1.2.1 x.1.2.2.1 x.1.2.2.2 x.2) (fun _ _ h=>qrg h)
def q6a:Cod (V×List B) ByteArray:=(cFstU (cPair (vC cStr) qre))
def q6k (s:BA):=fS Tryz.prog lv X0 154 q69 q6a s
def q6l (s:BA):Oq BA :=
 (gdE ((dM s.size)&&(!(s.size==0)))<|
 (gdE (EC.isL qb0 (bytesL s))<|
 ((q6d s.size s.size (s.size:Int) 0 (EC.decL qb0 (bytesL s))).bind fun r0 =>
 ((bytesOf (EC.encL qb0 r0.2)).bind fun r1 =>
 (some (ByteArray.mk (List.toArray r1)))))))
theorem q6c {s r} (h:q6l s=some r):q6k s=some r :=
 qjn (es:=q1i5) (hs:=[]) [q6e] Tryz.func154 rfl (by kernel_rfl) rfl (by kernel_rfl) (by kernel_rfl) ⟨⟨_,rfl,rfl⟩,trivial⟩ trivial (by kernel_rfl) h
def q6b:=entS Tryz.prog lv X0 154 [] q69 q6a (fun x=>q6k x) (fun _ _ h=>qjm h)
def q1ia:=q6b::q1i5
abbrev z3h:=(qrd (vC cStr) z38)
def q74:=z3h
def q75:Cod (V×List B) Bool:=z34
def q78 (a b:BA):=fS Tryz.prog lv X0 153 q74 q75 (a,b)
def q79 (a b:BA):Oq Bool :=
 (brE (((a.size:Int)==(b.size:Int))==true)
 ((q6k a).bind fun r0 =>
 ((q6k b).bind fun r1 =>
 (some (r0.toList==r1.toList))))
 (some false))
theorem q77 {a b r} (h:q79 a b=some r):q78 a b=some r :=
 qjn (es:=q1ia) (hs:=[]) [] Tryz.func153 rfl (by kernel_rfl) rfl (by kernel_rfl) (by kernel_rfl) trivial trivial (by kernel_rfl) h
def q76:=entS Tryz.prog lv X0 153 [] q74 q75 (fun x=>q78 x.1 x.2) (fun _ _ h=>qjm h)
def q1ie:=q76::q1ia
def q5d:=(qrf (vC (cSl qb0)))
def q5n:=sLS [0,3,4] (qrd (vC (cSl qb0)) z32) qre [] [] (by decide) (fun _=>rfl)
def q5m:=sLS [0,3,4,9] (qrd (vC (cSl qb0)) z33) qre [] [] (by decide) (fun _=>rfl)
abbrev z3a:=(vC (cInt .i64))
def q5l:=sLS [2] (qrf z3a) qre [] [] (by decide) (fun _=>rfl)
def q5k:=oOr 1 q5l (oAt 2 q5m) (fun x=>(by decide:(2:Nat)≠1))
def q5h (b:(List Int)) (column i:Int):=lS Tryz.prog lv X0 115 45 (qnb (cdF Tryz.f115) 3) q5n q5k ((b,column,i),())
def q5o (b:(List Int)) (column i:Int):Oq ((Int×Unit)⊕(((List Int)×Int×Int×Bool)×Unit)) :=
 (brE (decide (i<(lN qb0 b:Int)))
 (gdE (p0 i)<|
 (gdE (eC qb0 b i [(K1.int Go.IntKind.u8)])<|
 (brE (((qqd (List.getD (List.getD (EC.encL qb0 b) (Int.toNat i) []) 0 C.ne))==13)==true)
 (brE ((decide ((wI i)<(lN qb0 b:Int)))==true)
 (gdE (p0 (wI i))<|
 (gdE (eC qb0 b (wI i) [(K1.int Go.IntKind.u8)])<|
 (brE ((qqd (List.getD (List.getD (EC.encL qb0 b) (Int.toNat (wI i)) []) 0 C.ne))==10)
 (gL qb0 b<|
 (q5h (dL qb0 b) 0 (wI (wI i))))
 (brE (((qqd (List.getD (List.getD (EC.encL qb0 b) (Int.toNat i) []) 0 C.ne))==13)==false)
 (brE ((qqd (List.getD (List.getD (EC.encL qb0 b) (Int.toNat i) []) 0 C.ne))==10)
 (some (.inl (11,())))
 (brE (decide ((wI column)>998))
 (some (.inl (1,())))
 (gL qb0 b<|
 (q5h (dL qb0 b) (wI column) (wI i)))))
 (some (.inl (11,())))))))
 (brE (((qqd (List.getD (List.getD (EC.encL qb0 b) (Int.toNat i) []) 0 C.ne))==13)==false)
 (brE ((qqd (List.getD (List.getD (EC.encL qb0 b) (Int.toNat i) []) 0 C.ne))==10)
 (some (.inl (11,())))
 (brE (decide ((wI column)>998))
 (some (.inl (1,())))
 (gL qb0 b<|
 (q5h (dL qb0 b) (wI column) (wI i)))))
 (some (.inl (11,())))))
 (brE (((qqd (List.getD (List.getD (EC.encL qb0 b) (Int.toNat i) []) 0 C.ne))==13)==false)
 (brE ((qqd (List.getD (List.getD (EC.encL qb0 b) (Int.toNat i) []) 0 C.ne))==10)
 (some (.inl (11,())))
 (brE (decide ((wI column)>998))
 (some (.inl (1,())))
 (gL qb0 b<|
 (q5h (dL qb0 b) (wI column) (wI i)))))
 (some (.inl (11,())))))))
 (gL qb0 b<|
 (some (.inr (((dL qb0 b),(column,(i,false))),())))))
theorem q5j {b column i r} (h:q5o b column i=some r):q5h b column i=some r :=
 qrh (es:=q1ie) (hs:=[]) [] (by kernel_rfl) trivial trivial (by kernel_rfl) h
def q5i:=qs5 Tryz.prog lv X0 3 (qnb (cdF Tryz.f115) 3) q5n q5k (fun x=>q5h x.1.1 x.1.2.1 x.1.2.2) (fun _ _ h=>qrg h)
def q5e:Cod (V×List B) Int:=(cFstU (cPair z3a qre))
def q5p (b:(List Int)):=fS Tryz.prog lv X0 115 q5d q5e b
def q5q (b:(List Int)):Oq Int :=
 (gL qb0 b<|
 ((q5h (dL qb0 b) 0 0).bind fun r0 =>
 (Sum.elim (fun r1=>(some r1.1))
 (fun r1=>(some 0)) r0)))
theorem q5g {b r} (h:q5q b=some r):q5p b=some r :=
 qjn (es:=q1ie) (hs:=[]) [q5i] Tryz.func115 rfl (by kernel_rfl) rfl (by kernel_rfl) (by kernel_rfl) ⟨⟨_,rfl,rfl⟩,trivial⟩ trivial (by kernel_rfl) h
def q5f:=entS Tryz.prog lv X0 115 [] q5d q5e (fun x=>q5p x) (fun _ _ h=>qjm h)
def q1i6:=q5f::q1ie
def q6m:=z3f
def q6n:Cod (V×List B) Bool:=z34
def q6q (c:Int):=fS Tryz.prog lv X0 85 q6m q6n c
def q6r (c:Int):Oq Bool :=
 ((q67 c).bind fun r0 =>
 (brE (r0==false)
 (brE ((c==45)==false)
 (brE ((c==95)==false)
 (some (c==46))
 (some true))
 (some true))
 (some true)))
theorem q6p {c r} (h:q6r c=some r):q6q c=some r :=
 qjn (es:=q1i6) (hs:=[]) [] Tryz.func85 rfl (by kernel_rfl) rfl (by kernel_rfl) (by kernel_rfl) trivial trivial (by kernel_rfl) h
def q6o:=entS Tryz.prog lv X0 85 [] q6m q6n (fun x=>q6q x) (fun _ _ h=>qjm h)
def q1ic:=q6o::q1i6
def q2m:Cod (List V) (ByteArray×Unit):=(qrd (vC cStr) (qrf (vFn 85 qre)))
def q2w:=sLS [0,1,7,8] (qrd (vC cStr) (qrd (vFn 85 qre) z32)) qre [] [] (by decide) (fun _=>rfl)
def q2v:=sLS [0,1,7,8,9] (qrd (vC cStr) (qrd (vFn 85 qre) z33)) qre [] [] (by decide) (fun _=>rfl)
abbrev z3g:=(qrf (vC cBool))
def q2u:=sLS [4] z3g qre [] [] (by decide) (fun _=>rfl)
def q2t:=oOr 1 q2u (oAt 2 q2v) (fun x=>(by decide:(2:Nat)≠1))
def q2q (s:BA) (t7 t8:Int):=lS Tryz.prog lv X0 84 18 (qnb (cdF Tryz.f84) 2) q2w q2t ((s,(),t7,t8),())
def q2x (s:BA) (t7 t8:Int):Oq ((Bool×Unit)⊕((BA×Unit×Int×Int×Bool)×Unit)) :=
 (brE (decide (t8<t7))
 (gdE ((p0 t8)&&(decide ((Int.toNat t8)<s.size)))<|
 ((q6q (((UInt8.toNat (Array.getD s.data (Int.toNat t8) (0:UInt8))):Nat):Int)).bind fun r0 =>
 (brE (!r0)
 (some (.inl (false,())))
 (q2q s t7 (wI t8)))))
 (some (.inr ((s,((),(t7,(t8,false)))),()))))
theorem q2s {s t7 t8 r} (h:q2x s t7 t8=some r):q2q s t7 t8=some r :=
 qrh (es:=q1ic) (hs:=[]) [] (by kernel_rfl) trivial trivial (by kernel_rfl) h
def q2r:=qs5 Tryz.prog lv X0 2 (qnb (cdF Tryz.f84) 2) q2w q2t (fun x=>q2q x.1.1 x.1.2.2.1 x.1.2.2.2) (fun _ _ h=>qrg h)
def q2n:Cod (V×List B) Bool:=z34
def q30 (s:BA):=fS Tryz.prog lv X0 84 q2m q2n (s,())
def q32 (s:BA):Oq Bool :=
 ((q2q s (s.size:Int) 0).bind fun r0 =>
 (Sum.elim (fun r1=>(some r1.1))
 (fun r1=>(some true)) r0))
theorem q2p {s r} (h:q32 s=some r):q30 s=some r :=
 qjn (es:=q1ic) (hs:=[]) [q2r] Tryz.func84 rfl (by kernel_rfl) rfl (by kernel_rfl) (by kernel_rfl) ⟨⟨_,rfl,rfl⟩,trivial⟩ trivial (by kernel_rfl) h
def q2o:=entS Tryz.prog lv X0 84 [85] q2m q2n (fun x=>q30 x.1) (fun _ _ h=>qjm h)
def q1i3:=q2o::q1ic
def q6s:=z38
def q6t:Cod (V×List B) Bool:=z34
def q6w (s:BA):=fS Tryz.prog lv X0 64 q6s q6t s
def q6x (s:BA):Oq Bool :=
 (brE ((!(s.toList==(ByteArray.toList ⟨#[]⟩)))==true)
 (brE ((decide ((s.size:Int)≤60))==true)
 ((q30 s).bind fun r0 =>
 (some r0))
 (some false))
 (some false))
theorem q6v {s r} (h:q6x s=some r):q6w s=some r :=
 qjn (es:=q1i3) (hs:=[]) [] Tryz.func64 rfl (by kernel_rfl) rfl (by kernel_rfl) (by kernel_rfl) trivial trivial (by kernel_rfl) h
def q6u:=entS Tryz.prog lv X0 64 [] q6s q6t (fun x=>q6w x) (fun _ _ h=>qjm h)
def q1ib:=q6u::q1i3
def q1h8:=z3h
def q1h9:Cod (V×List B) Bool:=z34
def q1hc (s prefix_:BA):=fS Tryz.prog lv X0 161 q1h8 q1h9 (s,prefix_)
def q1hd (s prefix_:BA):Oq Bool :=
 (brE ((decide ((s.size:Int)≥(prefix_.size:Int)))==true)
 (gdE ((p0 (prefix_.size:Int))&&(decide ((prefix_.size:Int)≤(s.size:Int))))<|
 (some ((ByteArray.toList (ByteArray.extract s 0 (Int.toNat (prefix_.size:Int))))==prefix_.toList)))
 (some false))
theorem q1hb {s prefix_ r} (h:q1hd s prefix_=some r):q1hc s prefix_=some r :=
 qjn (es:=q1ib) (hs:=[]) [] Tryz.func161 rfl (by kernel_rfl) rfl (by kernel_rfl) (by kernel_rfl) trivial trivial (by kernel_rfl) h
def q1ha:=entS Tryz.prog lv X0 161 [] q1h8 q1h9 (fun x=>q1hc x.1 x.2) (fun _ _ h=>qjm h)
def q1kh:=q1ha::q1ib
def q1he:=z3h
def q1hf:Cod (V×List B) Bool:=z34
def q1hi (s suffix:BA):=fS Tryz.prog lv X0 162 q1he q1hf (s,suffix)
def q1hj (s suffix:BA):Oq Bool :=
 (brE ((decide ((s.size:Int)≥(suffix.size:Int)))==true)
 (gdE ((p0 (IntKind.wrap .i64 ((s.size:Int) - (suffix.size:Int))))&&(decide ((IntKind.wrap .i64 ((s.size:Int) - (suffix.size:Int)))≤(s.size:Int))))<|
 (some ((ByteArray.toList (ByteArray.extract s (Int.toNat (IntKind.wrap .i64 ((s.size:Int) - (suffix.size:Int)))) s.size))==suffix.toList)))
 (some false))
theorem q1hh {s suffix r} (h:q1hj s suffix=some r):q1hi s suffix=some r :=
 qjn (es:=q1kh) (hs:=[]) [] Tryz.func162 rfl (by kernel_rfl) rfl (by kernel_rfl) (by kernel_rfl) trivial trivial (by kernel_rfl) h
def q1hg:=entS Tryz.prog lv X0 162 [] q1he q1hf (fun x=>q1hi x.1 x.2) (fun _ _ h=>qjm h)
def q1ki:=q1hg::q1kh
def q1gw:=z3h
def q1gx:Cod (V×List B) Bool:=z34
def q1h0 (s prefix_:BA):=fS Tryz.prog lv X0 141 q1gw q1gx (s,prefix_)
def q1h1 (s prefix_:BA):Oq Bool :=
 ((q1hc s prefix_).bind fun r0 =>
 (some r0))
theorem q1gz {s prefix_ r} (h:q1h1 s prefix_=some r):q1h0 s prefix_=some r :=
 qjn (es:=q1ki) (hs:=[]) [] Tryz.func141 rfl (by kernel_rfl) rfl (by kernel_rfl) (by kernel_rfl) trivial trivial (by kernel_rfl) h
def q1gy:=entS Tryz.prog lv X0 141 [] q1gw q1gx (fun x=>q1h0 x.1 x.2) (fun _ _ h=>qjm h)
def q1kf:=q1gy::q1ki
def q1h2:=z3h
def q1h3:Cod (V×List B) Bool:=z34
def q1h6 (s suffix:BA):=fS Tryz.prog lv X0 142 q1h2 q1h3 (s,suffix)
def q1h7 (s suffix:BA):Oq Bool :=
 ((q1hi s suffix).bind fun r0 =>
 (some r0))
theorem q1h5 {s suffix r} (h:q1h7 s suffix=some r):q1h6 s suffix=some r :=
 qjn (es:=q1kf) (hs:=[]) [] Tryz.func142 rfl (by kernel_rfl) rfl (by kernel_rfl) (by kernel_rfl) trivial trivial (by kernel_rfl) h
def q1h4:=entS Tryz.prog lv X0 142 [] q1h2 q1h3 (fun x=>q1h6 x.1 x.2) (fun _ _ h=>qjm h)
def q1kg:=q1h4::q1kf
def qlf:=z3f
def qlg:Cod (V×List B) Bool:=z34
def qlj (c:Int):=fS Tryz.prog lv X0 144 qlf qlg c
def qlk (c:Int):Oq Bool :=
 (brE ((decide (c≥33))==true)
 (brE ((decide (c≤126))==true)
 (some (c != 58))
 (some false))
 (some false))
theorem qli {c r} (h:qlk c=some r):qlj c=some r :=
 qjn (es:=q1kg) (hs:=[]) [] Tryz.func144 rfl (by kernel_rfl) rfl (by kernel_rfl) (by kernel_rfl) trivial trivial (by kernel_rfl) h
def qlh:=entS Tryz.prog lv X0 144 [] qlf qlg (fun x=>qlj x) (fun _ _ h=>qjm h)
def q1iu:=qlh::q1kg
def q1n:Cod (List V) (ByteArray×Unit):=(qrd (vC cStr) (qrf (vFn 144 qre)))
def q1x:=sLS [0,1,7,8] (qrd (vC cStr) (qrd (vFn 144 qre) z32)) qre [] [] (by decide) (fun _=>rfl)
def q1w:=sLS [0,1,7,8,9] (qrd (vC cStr) (qrd (vFn 144 qre) z33)) qre [] [] (by decide) (fun _=>rfl)
def q1v:=sLS [4] z3g qre [] [] (by decide) (fun _=>rfl)
def q1u:=oOr 1 q1v (oAt 2 q1w) (fun x=>(by decide:(2:Nat)≠1))
def q1r (s:BA) (t7 t8:Int):=lS Tryz.prog lv X0 84 18 (qnb (cdF Tryz.f84) 2) q1x q1u ((s,(),t7,t8),())
def q1y (s:BA) (t7 t8:Int):Oq ((Bool×Unit)⊕((BA×Unit×Int×Int×Bool)×Unit)) :=
 (brE (decide (t8<t7))
 (gdE ((p0 t8)&&(decide ((Int.toNat t8)<s.size)))<|
 ((qlj (((UInt8.toNat (Array.getD s.data (Int.toNat t8) (0:UInt8))):Nat):Int)).bind fun r0 =>
 (brE (!r0)
 (some (.inl (false,())))
 (q1r s t7 (wI t8)))))
 (some (.inr ((s,((),(t7,(t8,false)))),()))))
theorem q1t {s t7 t8 r} (h:q1y s t7 t8=some r):q1r s t7 t8=some r :=
 qrh (es:=q1iu) (hs:=[]) [] (by kernel_rfl) trivial trivial (by kernel_rfl) h
def q1s:=qs5 Tryz.prog lv X0 2 (qnb (cdF Tryz.f84) 2) q1x q1u (fun x=>q1r x.1.1 x.1.2.2.1 x.1.2.2.2) (fun _ _ h=>qrg h)
def q1o:Cod (V×List B) Bool:=z34
def q21 (s:BA):=fS Tryz.prog lv X0 84 q1n q1o (s,())
def q23 (s:BA):Oq Bool :=
 ((q1r s (s.size:Int) 0).bind fun r0 =>
 (Sum.elim (fun r1=>(some r1.1))
 (fun r1=>(some true)) r0))
theorem q1q {s r} (h:q23 s=some r):q21 s=some r :=
 qjn (es:=q1iu) (hs:=[]) [q1s] Tryz.func84 rfl (by kernel_rfl) rfl (by kernel_rfl) (by kernel_rfl) ⟨⟨_,rfl,rfl⟩,trivial⟩ trivial (by kernel_rfl) h
def q1p:=entS Tryz.prog lv X0 84 [144] q1n q1o (fun x=>q21 x.1) (fun _ _ h=>qjm h)
def q1i1:=q1p::q1iu
def qll:=z38
def qlm:Cod (V×List B) Bool:=z34
def qlp (s:BA):=fS Tryz.prog lv X0 116 qll qlm s
def qlq (s:BA):Oq Bool :=
 (brE ((!(s.toList==(ByteArray.toList ⟨#[]⟩)))==true)
 (brE ((decide ((s.size:Int)≤60))==true)
 ((q21 s).bind fun r0 =>
 (some r0))
 (some false))
 (some false))
theorem qlo {s r} (h:qlq s=some r):qlp s=some r :=
 qjn (es:=q1i1) (hs:=[]) [] Tryz.func116 rfl (by kernel_rfl) rfl (by kernel_rfl) (by kernel_rfl) trivial trivial (by kernel_rfl) h
def qln:=entS Tryz.prog lv X0 116 [] qll qlm (fun x=>qlp x) (fun _ _ h=>qjm h)
def q1it:=qln::q1i1
def ql7:=z38
def ql8:Cod (V×List B) Bool:=z34
def qlb (s:BA):=fS Tryz.prog lv X0 145 ql7 ql8 s
def qlc (s:BA):Oq Bool :=
 ((canyP s (ByteArray.mk (List.toArray [(13:UInt8),(10:UInt8),(0:UInt8)]))).bind fun r0 =>
 (some r0))
theorem qla {s r} (h:qlc s=some r):qlb s=some r :=
 qjn (es:=q1it) (hs:=[]) [] Tryz.func145 rfl (by kernel_rfl) rfl (by kernel_rfl) (by kernel_rfl) trivial trivial (by kernel_rfl) h
def ql9:=entS Tryz.prog lv X0 145 [] ql7 ql8 (fun x=>qlb x) (fun _ _ h=>qjm h)
def q1is:=ql9::q1it
def qm6:=z38
def qm7:Cod (V×List B) Bool:=z34
def qma (s:BA):=fS Tryz.prog lv X0 117 qm6 qm7 s
def qmb (s:BA):Oq Bool :=
 ((qlb s).bind fun r0 =>
 (brE ((!r0)==true)
 (brE ((s.toList==(ByteArray.toList ⟨#[]⟩))==false)
 (gdE ((decide ((0:Int)≤0))&&(decide ((Int.toNat 0)<s.size)))<|
 ((q5b (((UInt8.toNat (Array.getD s.data (Int.toNat 0) (0:UInt8))):Nat):Int)).bind fun r1 =>
 (brE ((!r1)==true)
 (gdE ((p0 (IntKind.wrap .i64 ((s.size:Int) - 1)))&&(decide ((Int.toNat (IntKind.wrap .i64 ((s.size:Int) - 1)))<s.size)))<|
 (Option.bind (q5b (((UInt8.toNat (Array.getD s.data (Int.toNat (IntKind.wrap .i64 ((s.size:Int) - 1))) (0:UInt8))):Nat):Int)) fun r2 =>
 (some (!r2))))
 (some false))))
 (some true))
 (some false)))
theorem qm9 {s r} (h:qmb s=some r):qma s=some r :=
 qjn (es:=q1is) (hs:=[]) [] Tryz.func117 rfl (by kernel_rfl) rfl (by kernel_rfl) (by kernel_rfl) trivial trivial (by kernel_rfl) h
def qm8:=entS Tryz.prog lv X0 117 [] qm6 qm7 (fun x=>qma x) (fun _ _ h=>qjm h)
def q1iw:=qm8::q1is
def qls:=(qrd (vC cStr) (qrf z3a))
def qm2:=sLS [0,5,6] (qrd (vC cStr) z32) qre [] [] (by decide) (fun _=>rfl)
def qm0:=sLS [0,5,6,32] (qrd (vC cStr) z33) qre [] [] (by decide) (fun _=>rfl)
def qm1:SC ((ByteArray×Int×Int×Bool)×Unit):=sLS [0,5,6,12] (qrd (vC cStr) (qrd (vC (cInt .i64)) (qrd (vC (cInt .i64)) (qrf (vC cBool))))) qre [] [] (by decide) (fun _=>rfl)
def qlz:=oOrK 2 [0,5,6,12] qm1 (oAt 2 qm0) (fun x y=>.inr (st_ne 12 (by decide:(false:Bool)≠true)))
def qlw (s:BA) (best i:Int):=lS Tryz.prog lv X0 118 35 (qnb (cdF Tryz.f118) 3) qm2 qlz ((s,best,i),())
def qm3 (s:BA) (best i:Int):Oq (((BA×Int×Int×Bool)×Unit)⊕((BA×Int×Int×Bool)×Unit)) :=
 (brE (decide (i<(s.size:Int)))
 (gdE ((p0 i)&&(decide ((Int.toNat i)<s.size)))<|
 ((q5b (((UInt8.toNat (Array.getD s.data (Int.toNat i) (0:UInt8))):Nat):Int)).bind fun r0 =>
 (brE ((!r0)==false)
 (gdE ((p0 (IntKind.wrap .i64 (i - 1)))&&(decide ((Int.toNat (IntKind.wrap .i64 (i - 1)))<s.size)))<|
 (Option.bind (q5b (((UInt8.toNat (Array.getD s.data (Int.toNat (IntKind.wrap .i64 (i - 1))) (0:UInt8))):Nat):Int)) fun r1 =>
 (brE r1
 (qlw s best (wI i))
 (brE ((decide (best>0))==true)
 (brE (decide (i>78))
 (some (.inr ((s,(best,(i,true))),())))
 (qlw s i (wI i)))
 (qlw s i (wI i))))))
 (qlw s best (wI i)))))
 (some (.inl ((s,(best,(i,false))),()))))
theorem qly {s best i r} (h:qm3 s best i=some r):qlw s best i=some r :=
 qrh (es:=q1iw) (hs:=[]) [] (by kernel_rfl) trivial trivial (by kernel_rfl) h
def qlx:=qs5 Tryz.prog lv X0 3 (qnb (cdF Tryz.f118) 3) qm2 qlz (fun x=>qlw x.1.1 x.1.2.1 x.1.2.2) (fun _ _ h=>qrg h)
def qlt:Cod (V×List B) Int:=(cFstU (cPair z3a qre))
def qm4 (s:BA) (from_:Int):=fS Tryz.prog lv X0 118 qls qlt (s,from_)
def qm5 (s:BA) (from_:Int):Oq Int :=
 ((qlw s 0 (ite (true=true) (ite (from_<1) 1 from_) (ite (1<from_) 1 from_))).bind fun r0 =>
 (Sum.elim (fun r1=>(some r1.1.2.1))
 (fun r1=>(some r1.1.2.1)) r0))
theorem qlv {s from_ r} (h:qm5 s from_=some r):qm4 s from_=some r :=
 qjn (es:=q1iw) (hs:=[]) [qlx] Tryz.func118 rfl (by kernel_rfl) rfl (by kernel_rfl) (by kernel_rfl) ⟨⟨_,rfl,rfl⟩,trivial⟩ trivial (by kernel_rfl) h
def qlu:=entS Tryz.prog lv X0 118 [] qls qlt (fun x=>qm4 x.1 x.2) (fun _ _ h=>qjm h)
def q1iv:=qlu::q1iw
def qb5:EC ByteArray where
 enc x:=[.str x]
 dec c:=q1gu (c.getD 0 .ne)
 is c:=isE [.str] 0 c
 enc_dec h:=q9x h
 dec_enc x:=by rfl
 is_enc x:=by simp [isE,isK]
theorem enc_9 (x:ByteArray):qb5.enc x=[.str x]:=rfl
theorem isE_9 (xs:List ByteArray) (n:Nat):isE [.str] 0 ((qb5.encL xs).getD n [])=decide (n<xs.length):=by
 by_cases h:n<xs.length
 ·simp only [EC.getD_lt _ _ h];simp [enc_9,isE,isK,h]
 ·simp only [EC.getD_ge _ _ (Nat.not_lt.1 h)];simp [isE,isK,h]
theorem q51 (xs:List ByteArray) (n:Nat):q1gu (((qb5.encL xs).getD n []).getD 0 .ne)=(xs.getD n (qb5.dec [])):=by
 by_cases h:n<xs.length
 ·simp only [EC.getD_lt _ _ h];simp [enc_9,h,q1gu,List.getD_eq_getElem?_getD]
 ·simp only [EC.getD_ge _ _ (Nat.not_lt.1 h)];simp [Nat.not_lt.1 h,qb5,q1gu,List.getD_eq_getElem?_getD]
theorem lit_9 (a0:ByteArray):([.str a0]:List C)=qb5.enc a0:=rfl
theorem q3z (xs:List ByteArray) (a0:ByteArray):qb5.encL xs++[[.str a0]]=qb5.encL (xs++[a0]):=by rw [lit_9];simp [EC.encL]
theorem qs3 (xs:List ByteArray) (n:Nat) (h:n<xs.length):((qb5.encL xs).getD n []).length=1:=by rw [EC.getD_lt _ _ h];rfl
theorem q3l (xs:List ByteArray):(qb5.encL xs).all (fun (el:List C)=>el.length==1)=true:=by induction xs with|nil=>rfl|cons x xs ih=>first|(simp [EC.encL,enc_9];done)|simpa [EC.encL,enc_9] using ih
def qkl:=z3h
abbrev z36:=(qrd (qv4 (bBox z32)) (qrf (qv4 (bRow qb5))))
def ql3:=sLS [5,6,7,8] (qrd (vPtr 0 0) (qrd (vC cStr) (qrd z3a (qrf (vRow 1))))) z36 [false,false] [] (by decide) (fun _=>rfl)
def ql1:=sLS [5,6,8,9,41] (qrd (vPtr 0 0) (qrd (vC cStr) (qrd (vRow 1) (qrd z3a z3g)))) z36 [false,false] [] (by decide) (fun _=>rfl)
def ql2:SC ((Unit×ByteArray×Int×Nat×Bool)×((Int×Int)×(List ByteArray))):=sLS [5,6,7,8,36] (qrd (vPtr 0 0) (qrd (vC cStr) (qrd (vC (cInt .i64)) (qrd (vRow 1) (qrf (vC cBool)))))) (qrd (qv4 (bBox (qrd (vC (cInt .i64)) (qrf (vC (cInt .i64)))))) (qrf (qv4 (bRow qb5)))) [false,false] [] (by decide) (fun _=>rfl)
def ql0:=oOrK 3 [5,6,7,8,36] ql2 (oAt 3 ql1) (fun x y=>.inr (st_ne 7 (by decide:(false:Bool)≠true)))
def qkx (rest:BA) (from_:Int) (out:Nat) (b0 b0_1:Int) (b1:LB):=lS Tryz.prog lv X0 92 70 (qnb (cdF Tryz.f92) 9) ql3 ql0 (((),rest,from_,out),((b0,b0_1),b1))
def ql4 (rest:BA) (from_:Int) (out:Nat) (b0 b0_1:Int) (b1:LB):Oq (((Unit×BA×Int×Nat×Bool)×((Int×Int)×LB))⊕((Unit×BA×Nat×Int×Bool)×((Int×Int)×LB))) :=
 (brE (decide ((rest.size:Int)>78))
 ((qm4 rest from_).bind fun r0 =>
 (brE (r0==0)
 (gL qb5 b1<|
 (some (.inr (((),(rest,(out,(r0,true)))),((b0,b0_1),(dL qb5 b1))))))
 (gdE ((p0 r0)&&(decide (r0≤(rest.size:Int))))<|
 (gdE ((((aL [[(C.str (ByteArray.extract rest 0 (Int.toNat r0)))]] 1)&&(aL (EC.encL qb5 b1) 1))&&(dQ (out+(List.length [[(C.str (ByteArray.extract rest 0 (Int.toNat r0)))]])) 16))&&(decide ((out+(List.length [[(C.str (ByteArray.extract rest 0 (Int.toNat r0)))]]))≤9223372036854775807)))<|
 (gdE ((p0 r0)&&(decide (r0≤(rest.size:Int))))<|
 (gdE (EC.isL qb5 ((EC.encL qb5 b1)++[[(C.str (ByteArray.extract rest 0 (Int.toNat r0)))]]))<|
 (qkx (ByteArray.extract rest (Int.toNat r0) rest.size) 0 (out+(List.length [[(C.str (ByteArray.extract rest 0 (Int.toNat r0)))]])) b0 b0_1 (EC.decL qb5 ((EC.encL qb5 b1)++[[(C.str (ByteArray.extract rest 0 (Int.toNat r0)))]])))))))))
 (gL qb5 b1<|
 (some (.inl (((),(rest,(from_,(out,false)))),((b0,b0_1),(dL qb5 b1)))))))
theorem qkz {rest from_ out b0 b0_1 b1 r} (h:ql4 rest from_ out b0 b0_1 b1=some r):qkx rest from_ out b0 b0_1 b1=some r :=
 qrh (es:=q1iv) (hs:=[]) [] (by kernel_rfl) trivial trivial (by kernel_rfl) h
def qky:=qs5 Tryz.prog lv X0 9 (qnb (cdF Tryz.f92) 9) ql3 ql0 (fun x=>qkx x.1.2.1 x.1.2.2.1 x.1.2.2.2 x.2.1.1 x.2.1.2 x.2.2) (fun _ _ h=>qrg h)
def qkv:=sLS [5,8,55,56,57] (qrd (vPtr 0 0) (qrd (vRow 1) (qrd (vRow 1) z32))) z36 [false,false] [] (by decide) (fun _=>rfl)
def qku:=sLS [5,8,55,56,57,58] (qrd (vPtr 0 0) (qrd (vRow 1) (qrd (vRow 1) z33))) z36 [false,false] [] (by decide) (fun _=>rfl)
abbrev z3c:=(qrf (qv4 (bBox z32)))
def qkt:=sLS [4,5] (qrd (vRow 0) (qrf (vPtr 1 0))) (qrd (qv4 (bRow qb5)) z3c) [false,false] [] (by decide) (fun _=>rfl)
def qks:=oOr 1 qkt (oAt 5 qku) (fun x=>(by decide:(5:Nat)≠1))
def qkp (out t55:Nat) (t56 t57:Int) (b0 b0_1:Int) (b1:LB):=lS Tryz.prog lv X0 92 70 (qnb (cdF Tryz.f92) 16) qkv qks (((),out,t55,t56,t57),((b0,b0_1),b1))
def qkw (out t55:Nat) (t56 t57:Int) (b0 b0_1:Int) (b1:LB):Oq (((Nat×Unit)×(LB×(Int×Int)))⊕((Unit×Nat×Nat×Int×Int×Bool)×((Int×Int)×LB))) :=
 (brE (decide (t57<t56))
 (gdE ((p0 t57)&&(decide (t57<((t55:Nat):Int))))<|
 (gdE ((decide ((Int.toNat t57)<(lN qb5 b1)))&&((List.length (List.getD (EC.encL qb5 b1) (Int.toNat t57) []))==1))<|
 (gdE (isP [K1.str] 0 (List.getD (EC.encL qb5 b1) (Int.toNat t57) []))<|
 (brE (decide ((((ByteArray.size (q1gu (List.getD (List.getD (EC.encL qb5 b1) (Int.toNat t57) []) 0 C.ne))):Nat):Int)>998))
 ((q61 1 t57).bind fun r0 =>
 (some (.inl ((0,()),((EC.decL qb5 []),(r0.1,r0.2))))))
 (gL qb5 b1<|
 (qkp out t55 t56 (wI t57) b0 b0_1 (dL qb5 b1)))))))
 (gL qb5 b1<|
 (some (.inr (((),(out,(t55,(t56,(t57,false))))),((b0,b0_1),(dL qb5 b1)))))))
theorem qkr {out t55 t56 t57 b0 b0_1 b1 r} (h:qkw out t55 t56 t57 b0 b0_1 b1=some r):qkp out t55 t56 t57 b0 b0_1 b1=some r :=
 qrh (es:=q1iv) (hs:=[]) [] (by kernel_rfl) trivial trivial (by kernel_rfl) h
def qkq:=qs5 Tryz.prog lv X0 16 (qnb (cdF Tryz.f92) 16) qkv qks (fun x=>qkp x.1.2.1 x.1.2.2.1 x.1.2.2.2.1 x.1.2.2.2.2 x.2.1.1 x.2.1.2 x.2.2) (fun _ _ h=>qrg h)
abbrev z3j:=(vTup (qrd (vRow 0) (qrf (vAgg z32))))
def qkm:Cod (V×List B) ((Nat×(Int×Int))×(List ByteArray)):=(cPair z3j (qrf (bRow qb5)))
def ql5 (n v:BA):=fS Tryz.prog lv X0 92 qkl qkm (n,v)
def ql6 (n v:BA):Oq ((Nat×(Int×Int))×LB) :=
 ((qlp n).bind fun r0 =>
 (brE (!r0)
 ((q61 10 (-1)).bind fun r1 =>
 (some ((0,(r1.1,r1.2)),(EC.decL qb5 []))))
 (brE (decide ((v.size:Int)>4000))
 ((q61 1 (-1)).bind fun r1 =>
 (some ((0,(r1.1,r1.2)),(EC.decL qb5 []))))
 ((qma v).bind fun r1 =>
 (brE (!r1)
 ((q61 11 (-1)).bind fun r2 =>
 (some ((0,(r2.1,r2.2)),(EC.decL qb5 []))))
 (brE (decide ((((n.size+(ByteArray.size (ByteArray.mk (List.toArray [(58:UInt8),(32:UInt8)])))):Nat):Int)>(Go.IntKind.max Go.IntKind.i64)))
 none
 (brE (decide (((((ByteArray.size (n++(ByteArray.mk (List.toArray [(58:UInt8),(32:UInt8)]))))+v.size):Nat):Int)>(Go.IntKind.max Go.IntKind.i64)))
 none
 ((qkx ((n++(ByteArray.mk (List.toArray [(58:UInt8),(32:UInt8)])))++v) (IntKind.wrap .i64 ((n.size:Int)+2)) 0 0 0 (EC.decL qb5 [])).bind fun r2 =>
 (Sum.elim (fun r3=>(gdE ((((aL [[(C.str r3.1.2.1)]] 1)&&(aL (EC.encL qb5 r3.2.2) 1))&&(dQ (r3.1.2.2.2.1+(List.length [[(C.str r3.1.2.1)]])) 16))&&(dM (r3.1.2.2.2.1+(List.length [[(C.str r3.1.2.1)]]))))<|
 (gdE (EC.isL qb5 ((EC.encL qb5 r3.2.2)++[[(C.str r3.1.2.1)]]))<|
 ((qkp (r3.1.2.2.2.1+(List.length [[(C.str r3.1.2.1)]])) (r3.1.2.2.2.1+(List.length [[(C.str r3.1.2.1)]])) (((r3.1.2.2.2.1+(List.length [[(C.str r3.1.2.1)]])):Nat):Int) 0 r3.2.1.1 r3.2.1.2 (EC.decL qb5 ((EC.encL qb5 r3.2.2)++[[(C.str r3.1.2.1)]]))).bind fun r4 =>
 (Sum.elim (fun r5=>(gdE (EC.isL qb5 (EC.encL qb5 r5.2.1))<|
 (some ((r5.1.1,(r5.2.2.1,r5.2.2.2)),(dL qb5 r5.2.1)))))
 (fun r5=>(Option.bind q72 fun r6 =>
 (gL qb5 r5.2.2<|
 (some ((r5.1.2.1,(r6.1,r6.2)),(dL qb5 r5.2.2)))))) r4)))))
 (fun r3=>(gdE ((((aL [[(C.str r3.1.2.1)]] 1)&&(aL (EC.encL qb5 r3.2.2) 1))&&(dQ (r3.1.2.2.1+(List.length [[(C.str r3.1.2.1)]])) 16))&&(dM (r3.1.2.2.1+(List.length [[(C.str r3.1.2.1)]]))))<|
 (gdE (EC.isL qb5 ((EC.encL qb5 r3.2.2)++[[(C.str r3.1.2.1)]]))<|
 ((qkp (r3.1.2.2.1+(List.length [[(C.str r3.1.2.1)]])) (r3.1.2.2.1+(List.length [[(C.str r3.1.2.1)]])) (((r3.1.2.2.1+(List.length [[(C.str r3.1.2.1)]])):Nat):Int) 0 r3.2.1.1 r3.2.1.2 (EC.decL qb5 ((EC.encL qb5 r3.2.2)++[[(C.str r3.1.2.1)]]))).bind fun r4 =>
 (Sum.elim (fun r5=>(gdE (EC.isL qb5 (EC.encL qb5 r5.2.1))<|
 (some ((r5.1.1,(r5.2.2.1,r5.2.2.2)),(dL qb5 r5.2.1)))))
 (fun r5=>(Option.bind q72 fun r6 =>
 (gL qb5 r5.2.2<|
 (some ((r5.1.2.1,(r6.1,r6.2)),(dL qb5 r5.2.2)))))) r4))))) r2)))))))))
theorem qko {n v r} (h:ql6 n v=some r):ql5 n v=some r :=
 qjn (es:=q1iv) (hs:=[]) [qky,qkq] Tryz.func92 rfl (by kernel_rfl) rfl (by kernel_rfl) (by kernel_rfl) ⟨⟨_,rfl,rfl⟩,⟨_,rfl,rfl⟩,trivial⟩ trivial (by kernel_rfl) h
def qkn:=entS Tryz.prog lv X0 92 [] qkl qkm (fun x=>ql5 x.1 x.2) (fun _ _ h=>qjm h)
def q1ir:=qkn::q1iv
structure S55 where
 Name:ByteArray
 Value:ByteArray
abbrev L55:=List S55
def qb2:EC S55 where
 enc x:=[.str x.Name,.str x.Value]
 dec c:=⟨q1gu (c.getD 0 .ne),q1gu (c.getD 1 .ne)⟩
 is c:=isE [.str,.str] 0 c
 enc_dec h:=q9x h
 dec_enc x:=by rfl
 is_enc x:=by simp [isE,isK]
theorem enc_55 (x:S55):qb2.enc x=[.str x.Name,.str x.Value]:=rfl
theorem isE_55 (xs:List S55) (n:Nat):isE [.str,.str] 0 ((qb2.encL xs).getD n [])=decide (n<xs.length):=by
 by_cases h:n<xs.length
 ·simp only [EC.getD_lt _ _ h];simp [enc_55,isE,isK,h]
 ·simp only [EC.getD_ge _ _ (Nat.not_lt.1 h)];simp [isE,isK,h]
theorem q4v (xs:List S55) (n:Nat):q1gu (((qb2.encL xs).getD n []).getD 0 .ne)=(xs.getD n (qb2.dec [])).Name:=by
 by_cases h:n<xs.length
 ·simp only [EC.getD_lt _ _ h];simp [enc_55,h,q1gu,List.getD_eq_getElem?_getD]
 ·simp only [EC.getD_ge _ _ (Nat.not_lt.1 h)];simp [Nat.not_lt.1 h,qb2,q1gu,List.getD_eq_getElem?_getD]
theorem q4w (xs:List S55) (n:Nat):q1gu (((qb2.encL xs).getD n []).getD 1 .ne)=(xs.getD n (qb2.dec [])).Value:=by
 by_cases h:n<xs.length
 ·simp only [EC.getD_lt _ _ h];simp [enc_55,h,q1gu,List.getD_eq_getElem?_getD]
 ·simp only [EC.getD_ge _ _ (Nat.not_lt.1 h)];simp [Nat.not_lt.1 h,qb2,q1gu,List.getD_eq_getElem?_getD]
abbrev z3d:=(vC (cSl qb2))
def qoc:=(qrf z3d)
def qom:=sLS [2,11,12,13] (qrd (vPtr 0 0) (qrd z3d z32)) z3c [false] [] (by decide) (fun _=>rfl)
def qol:=sLS [2,11,12,13,14] (qrd (vPtr 0 0) (qrd z3d z33)) z3c [false] [] (by decide) (fun _=>rfl)
def qok:=sLS [2] (qrf (vPtr 0 0)) z3c [false] [] (by decide) (fun _=>rfl)
def qoj:=oOr 1 qok (oAt 2 qol) (fun x=>(by decide:(2:Nat)≠1))
def qog (t11:L55) (t12 t13:Int) (b0 b0_1:Int):=lS Tryz.prog lv X0 90 34 (qnb (cdF Tryz.f90) 4) qom qoj (((),t11,t12,t13),(b0,b0_1))
def qon (t11:L55) (t12 t13:Int) (b0 b0_1:Int):Oq ((Unit×(Int×Int))⊕((Unit×L55×Int×Int×Bool)×(Int×Int))) :=
 (brE (decide (t13<t12))
 (gdE (p0 t13)<|
 (gdE (eC qb2 t11 t13 [K1.str,K1.str])<|
 ((ql5 (q1gu (List.getD (List.getD (EC.encL qb2 t11) (Int.toNat t13) []) 0 C.ne)) (q1gu (List.getD (List.getD (EC.encL qb2 t11) (Int.toNat t13) []) 1 C.ne))).bind fun r0 =>
 ((q5v r0.1.2.1 r0.1.2.2).bind fun r1 =>
 (brE r1
 ((q61 r0.1.2.1 t13).bind fun r2 =>
 (some (.inl ((),(r2.1,r2.2)))))
 (gL qb2 t11<|
 (qog (dL qb2 t11) t12 (wI t13) b0 b0_1)))))))
 (gL qb2 t11<|
 (some (.inr (((),((dL qb2 t11),(t12,(t13,false)))),(b0,b0_1))))))
theorem qoi {t11 t12 t13 b0 b0_1 r} (h:qon t11 t12 t13 b0 b0_1=some r):qog t11 t12 t13 b0 b0_1=some r :=
 qrh (es:=q1ir) (hs:=[]) [] (by kernel_rfl) trivial trivial (by kernel_rfl) h
def qoh:=qs5 Tryz.prog lv X0 4 (qnb (cdF Tryz.f90) 4) qom qoj (fun x=>qog x.1.2.1 x.1.2.2.1 x.1.2.2.2 x.2.1 x.2.2) (fun _ _ h=>qrg h)
def qod:Cod (V×List B) (Int×Int):=z39
def qoo (l:L55):=fS Tryz.prog lv X0 90 qoc qod l
def qop (l:L55):Oq (Int×Int) :=
 (brE (decide ((lN qb2 l:Int)>60))
 ((q61 2 (-1)).bind fun r0 =>
 (some (r0.1,r0.2)))
 (gL qb2 l<|
 ((qog (dL qb2 l) (lN qb2 l:Int) 0 0 0).bind fun r0 =>
 (Sum.elim (fun r1=>(some (r1.2.1,r1.2.2)))
 (fun r1=>(Option.bind q72 fun r2 =>
 (some (r2.1,r2.2)))) r0))))
theorem qof {l r} (h:qop l=some r):qoo l=some r :=
 qjn (es:=q1ir) (hs:=[]) [qoh] Tryz.func90 rfl (by kernel_rfl) rfl (by kernel_rfl) (by kernel_rfl) ⟨⟨_,rfl,rfl⟩,trivial⟩ trivial (by kernel_rfl) h
def qoe:=entS Tryz.prog lv X0 90 [] qoc qod (fun x=>qoo x) (fun _ _ h=>qjm h)
def q1iz:=qoe::q1ir
def qoq:=z38
def qor:Cod (V×List B) Bool:=z34
def qou (s:BA):=fS Tryz.prog lv X0 167 qoq qor s
def qov (s:BA):Oq Bool :=
 ((ql5 s ⟨#[]⟩).bind fun r0 =>
 ((q5v r0.1.2.1 r0.1.2.2).bind fun r1 =>
 (some (!r1))))
theorem qot {s r} (h:qov s=some r):qou s=some r :=
 qjn (es:=q1iz) (hs:=[]) [] Tryz.func167 rfl (by kernel_rfl) rfl (by kernel_rfl) (by kernel_rfl) trivial trivial (by kernel_rfl) h
def qos:=entS Tryz.prog lv X0 167 [] qoq qor (fun x=>qou x) (fun _ _ h=>qjm h)
def q1j0:=qos::q1iz
def qow:=(qrd z3d z38)
def qox:Cod (V×List B) (Int×Int):=z39
def qp0 (l:L55) (n:BA):=fS Tryz.prog lv X0 157 qow qox (l,n)
def qp1 (l:L55) (n:BA):Oq (Int×Int) :=
 (gL qb2 l<|
 ((qoo (dL qb2 l)).bind fun r0 =>
 ((q5v r0.1 r0.2).bind fun r1 =>
 (brE r1
 (some (r0.1,r0.2))
 ((qou n).bind fun r2 =>
 (brE (!r2)
 ((q61 10 (-3)).bind fun r3 =>
 (some (r3.1,r3.2)))
 (Option.bind q72 fun r3 =>
 (some (r3.1,r3.2)))))))))
theorem qoz {l n r} (h:qp1 l n=some r):qp0 l n=some r :=
 qjn (es:=q1j0) (hs:=[]) [] Tryz.func157 rfl (by kernel_rfl) rfl (by kernel_rfl) (by kernel_rfl) trivial trivial (by kernel_rfl) h
def qoy:=entS Tryz.prog lv X0 157 [] qow qox (fun x=>qp0 x.1 x.2) (fun _ _ h=>qjm h)
def q1j1:=qoy::q1j0
def qnz:=(qrd z3d z38)
def qo8:=sLS [1,5,7,16,17,18] (qrd (vC cStr) (qrd (vPtr 0 0) (qrd (vRow 1) (qrd z3d z32)))) z36 [false,false] [] (by decide) (fun _=>rfl)
def qo7:=sLS [1,5,7,16,17,18,19] (qrd (vC cStr) (qrd (vPtr 0 0) (qrd (vRow 1) (qrd z3d z33)))) z36 [false,false] [] (by decide) (fun _=>rfl)
def qo6:=oAt 2 qo7
def qo3 (n:BA) (out:Nat) (t16:L55) (t17 t18:Int) (b0 b0_1:Int) (b1:LB):=lS Tryz.prog lv X0 135 34 (qnb (cdF Tryz.f135) 6) qo8 qo6 ((n,(),out,t16,t17,t18),((b0,b0_1),b1))
def qo9 (n:BA) (out:Nat) (t16:L55) (t17 t18:Int) (b0 b0_1:Int) (b1:LB):Oq ((BA×Unit×Nat×L55×Int×Int×Bool)×((Int×Int)×LB)) :=
 (brE (decide (t18<t17))
 (gdE (p0 t18)<|
 (gdE (eC qb2 t16 t18 [K1.str,K1.str])<|
 ((q78 (q1gu (List.getD (List.getD (EC.encL qb2 t16) (Int.toNat t18) []) 0 C.ne)) n).bind fun r0 =>
 (brE r0
 (gdE ((((aL [[(C.str (q1gu (List.getD (List.getD (EC.encL qb2 t16) (Int.toNat t18) []) 1 C.ne)))]] 1)&&(aL (EC.encL qb5 b1) 1))&&(dQ (out+(List.length [[(C.str (q1gu (List.getD (List.getD (EC.encL qb2 t16) (Int.toNat t18) []) 1 C.ne)))]])) 16))&&(decide ((out+(List.length [[(C.str (q1gu (List.getD (List.getD (EC.encL qb2 t16) (Int.toNat t18) []) 1 C.ne)))]]))≤9223372036854775807)))<|
 (gL qb2 t16<|
 (gdE (EC.isL qb5 ((EC.encL qb5 b1)++[[(C.str (q1gu (List.getD (List.getD (EC.encL qb2 t16) (Int.toNat t18) []) 1 C.ne)))]]))<|
 (qo3 n (out+(List.length [[(C.str (q1gu (List.getD (List.getD (EC.encL qb2 t16) (Int.toNat t18) []) 1 C.ne)))]])) (dL qb2 t16) t17 (wI t18) b0 b0_1 (EC.decL qb5 ((EC.encL qb5 b1)++[[(C.str (q1gu (List.getD (List.getD (EC.encL qb2 t16) (Int.toNat t18) []) 1 C.ne)))]]))))))
 (gL qb2 t16<|
 (gL qb5 b1<|
 (qo3 n out (dL qb2 t16) t17 (wI t18) b0 b0_1 (dL qb5 b1))))))))
 (gL qb2 t16<|
 (gL qb5 b1<|
 (some ((n,((),(out,((dL qb2 t16),(t17,(t18,false)))))),((b0,b0_1),(dL qb5 b1)))))))
theorem qo5 {n out t16 t17 t18 b0 b0_1 b1 r} (h:qo9 n out t16 t17 t18 b0 b0_1 b1=some r):qo3 n out t16 t17 t18 b0 b0_1 b1=some r :=
 qrh (es:=q1j1) (hs:=[]) [] (by kernel_rfl) trivial trivial (by kernel_rfl) h
def qo4:=qs5 Tryz.prog lv X0 6 (qnb (cdF Tryz.f135) 6) qo8 qo6 (fun x=>qo3 x.1.1 x.1.2.2.1 x.1.2.2.2.1 x.1.2.2.2.2.1 x.1.2.2.2.2.2 x.2.1.1 x.2.1.2 x.2.2) (fun _ _ h=>qrg h)
def qo0:Cod (V×List B) ((Nat×(Int×Int))×(List ByteArray)):=(cPair z3j (qrf (bRow qb5)))
def qoa (l:L55) (n:BA):=fS Tryz.prog lv X0 135 qnz qo0 (l,n)
def qob (l:L55) (n:BA):Oq ((Nat×(Int×Int))×LB) :=
 (gL qb2 l<|
 ((qp0 (dL qb2 l) n).bind fun r0 =>
 ((q5v r0.1 r0.2).bind fun r1 =>
 (brE r1
 (some ((0,(r0.1,r0.2)),(EC.decL qb5 [])))
 (gL qb2 l<|
 ((qo3 n 0 (dL qb2 l) (lN qb2 l:Int) 0 0 0 (EC.decL qb5 [])).bind fun r2 =>
 (Option.bind q72 fun r3 =>
 (gL qb5 r2.2.2<|
 (some ((r2.1.2.2.1,(r3.1,r3.2)),(dL qb5 r2.2.2)))))))))))
theorem qo2 {l n r} (h:qob l n=some r):qoa l n=some r :=
 qjn (es:=q1j1) (hs:=[]) [qo4] Tryz.func135 rfl (by kernel_rfl) rfl (by kernel_rfl) (by kernel_rfl) ⟨⟨_,rfl,rfl⟩,trivial⟩ trivial (by kernel_rfl) h
def qo1:=entS Tryz.prog lv X0 135 [] qnz qo0 (fun x=>qoa x.1 x.2) (fun _ _ h=>qjm h)
def q1iy:=qo1::q1j1
abbrev z35:=(qrd (vC (cSl qb2)) (qrf (vC (cSl qb0))))
def qtv:=(qrf (vAgg z35))
abbrev z3i:=(qrd (qv4 (bBox z35)) (qrd (qv4 (bRow qb0)) (qrf (qv4 (bRow qb5)))))
def qub:=sLS [1,3,11,12,13,25,26,27] (qrd (vPtr 0 0) (qrd (vRow 1) (qrd z3d (qrd z3a (qrd z3a (qrd (vRow 2) z32)))))) z3i [false,false,false] [] (by decide) (fun _=>rfl)
def qua:=sLS [1,3,11,12,13,25,26,27,28] (qrd (vPtr 0 0) (qrd (vRow 1) (qrd z3d (qrd z3a (qrd z3a (qrd (vRow 2) z33)))))) z3i [false,false,false] [] (by decide) (fun _=>rfl)
def qu9:=oAt 4 qua
def qu6 (out:Nat) (t11:L55) (t12 t13:Int) (t25:Nat) (t26 t27:Int) (b0:L55) (b0_1:(List Int)) (b1:(List Int)) (b2:LB):=lS Tryz.prog lv X0 67 44 (qnb (cdF Tryz.f67) 7) qub qu9 (((),out,t11,t12,t13,t25,t26,t27),((b0,b0_1),b1,b2))
def quc (out:Nat) (t11:L55) (t12 t13:Int) (t25:Nat) (t26 t27:Int) (b0:L55) (b0_1:(List Int)) (b1:(List Int)) (b2:LB):Oq ((Unit×Nat×L55×Int×Int×Nat×Int×Int×Bool)×((L55×(List Int))×(List Int)×LB)) :=
 (brE (decide (t27<t26))
 (gdE ((p0 t27)&&(decide (t27<((t25:Nat):Int))))<|
 (gdE ((decide ((Int.toNat t27)<(lN qb5 b2)))&&((List.length (List.getD (EC.encL qb5 b2) (Int.toNat t27) []))==1))<|
 (gdE (isP [K1.str] 0 (List.getD (EC.encL qb5 b2) (Int.toNat t27) []))<|
 (gdE ((((aL (List.map (fun (b:UInt8)=>[(byteC b)]) (Array.toList (ByteArray.data (q1gu (List.getD (List.getD (EC.encL qb5 b2) (Int.toNat t27) []) 0 C.ne))))) 1)&&(aL (EC.encL qb0 b1) 1))&&(dQ (out+(List.length (List.map (fun (b:UInt8)=>[(byteC b)]) (Array.toList (ByteArray.data (q1gu (List.getD (List.getD (EC.encL qb5 b2) (Int.toNat t27) []) 0 C.ne))))))) 1))&&(decide ((out+(List.length (List.map (fun (b:UInt8)=>[(byteC b)]) (Array.toList (ByteArray.data (q1gu (List.getD (List.getD (EC.encL qb5 b2) (Int.toNat t27) []) 0 C.ne)))))))≤9223372036854775807)))<|
 (gdE ((((aL [[(C.int Go.IntKind.u8 13)],[(C.int Go.IntKind.u8 10)]] 1)&&(aL ((EC.encL qb0 b1)++(List.map (fun (b:UInt8)=>[(byteC b)]) (Array.toList (ByteArray.data (q1gu (List.getD (List.getD (EC.encL qb5 b2) (Int.toNat t27) []) 0 C.ne)))))) 1))&&(dQ ((out+(List.length (List.map (fun (b:UInt8)=>[(byteC b)]) (Array.toList (ByteArray.data (q1gu (List.getD (List.getD (EC.encL qb5 b2) (Int.toNat t27) []) 0 C.ne)))))))+(List.length [[(C.int Go.IntKind.u8 13)],[(C.int Go.IntKind.u8 10)]])) 1))&&(decide (((out+(List.length (List.map (fun (b:UInt8)=>[(byteC b)]) (Array.toList (ByteArray.data (q1gu (List.getD (List.getD (EC.encL qb5 b2) (Int.toNat t27) []) 0 C.ne)))))))+(List.length [[(C.int Go.IntKind.u8 13)],[(C.int Go.IntKind.u8 10)]]))≤9223372036854775807)))<|
 (gL qb2 t11<|
 (gL qb2 b0<|
 (gL qb0 b0_1<|
 (gdE (EC.isL qb0 (((EC.encL qb0 b1)++(List.map (fun (b:UInt8)=>[(byteC b)]) (Array.toList (ByteArray.data (q1gu (List.getD (List.getD (EC.encL qb5 b2) (Int.toNat t27) []) 0 C.ne))))))++[[(C.int Go.IntKind.u8 13)],[(C.int Go.IntKind.u8 10)]]))<|
 (gL qb5 b2<|
 (qu6 ((out+(List.length (List.map (fun (b:UInt8)=>[(byteC b)]) (Array.toList (ByteArray.data (q1gu (List.getD (List.getD (EC.encL qb5 b2) (Int.toNat t27) []) 0 C.ne)))))))+(List.length [[(C.int Go.IntKind.u8 13)],[(C.int Go.IntKind.u8 10)]])) (dL qb2 t11) t12 t13 t25 t26 (wI t27) (dL qb2 b0) (dL qb0 b0_1) (EC.decL qb0 (((EC.encL qb0 b1)++(List.map (fun (b:UInt8)=>[(byteC b)]) (Array.toList (ByteArray.data (q1gu (List.getD (List.getD (EC.encL qb5 b2) (Int.toNat t27) []) 0 C.ne))))))++[[(C.int Go.IntKind.u8 13)],[(C.int Go.IntKind.u8 10)]])) (dL qb5 b2))))))))))))
 (gL qb2 t11<|
 (gL qb2 b0<|
 (gL qb0 b0_1<|
 (gL qb0 b1<|
 (gL qb5 b2<|
 (some (((),(out,((dL qb2 t11),(t12,(t13,(t25,(t26,(t27,false)))))))),(((dL qb2 b0),(dL qb0 b0_1)),((dL qb0 b1),(dL qb5 b2)))))))))))
theorem qu8 {out t11 t12 t13 t25 t26 t27 b0 b0_1 b1 b2 r} (h:quc out t11 t12 t13 t25 t26 t27 b0 b0_1 b1 b2=some r):qu6 out t11 t12 t13 t25 t26 t27 b0 b0_1 b1 b2=some r :=
 qrh (es:=q1iy) (hs:=[]) [] (by kernel_rfl) trivial trivial (by kernel_rfl) h
def qu7:=qs5 Tryz.prog lv X0 7 (qnb (cdF Tryz.f67) 7) qub qu9 (fun x=>qu6 x.1.2.1 x.1.2.2.1 x.1.2.2.2.1 x.1.2.2.2.2.1 x.1.2.2.2.2.2.1 x.1.2.2.2.2.2.2.1 x.1.2.2.2.2.2.2.2 x.2.1.1 x.2.1.2 x.2.2.1 x.2.2.2) (fun _ _ h=>qrg h)
def qu4:=sLS [1,3,11,12,13] (qrd (vPtr 0 0) (qrd (vRow 1) (qrd z3d z32))) (qrd (qv4 (bBox z35)) z3k) [false,false] [] (by decide) (fun _=>rfl)
def qu3:=sLS [1,3,11,12,13,14] (qrd (vPtr 0 0) (qrd (vRow 1) (qrd z3d z33))) (qrd (qv4 (bBox z35)) z3k) [false,false] [] (by decide) (fun _=>rfl)
def qu2:=oAt 2 qu3
def qtz (out:Nat) (t11:L55) (t12 t13:Int) (b0:L55) (b0_1:(List Int)) (b1:(List Int)):=lS Tryz.prog lv X0 67 44 (qnb (cdF Tryz.f67) 3) qu4 qu2 (((),out,t11,t12,t13),((b0,b0_1),b1))
def qu5 (out:Nat) (t11:L55) (t12 t13:Int) (b0:L55) (b0_1:(List Int)) (b1:(List Int)):Oq ((Unit×Nat×L55×Int×Int×Bool)×((L55×(List Int))×(List Int))) :=
 (brE (decide (t13<t12))
 (gdE (p0 t13)<|
 (gdE (eC qb2 t11 t13 [K1.str,K1.str])<|
 ((ql5 (q1gu (List.getD (List.getD (EC.encL qb2 t11) (Int.toNat t13) []) 0 C.ne)) (q1gu (List.getD (List.getD (EC.encL qb2 t11) (Int.toNat t13) []) 1 C.ne))).bind fun r0 =>
 (gL qb2 t11<|
 (gL qb2 b0<|
 (gL qb0 b0_1<|
 (gL qb0 b1<|
 (gL qb5 r0.2<|
 ((qu6 out (dL qb2 t11) t12 t13 r0.1.1 ((r0.1.1:Nat):Int) 0 (dL qb2 b0) (dL qb0 b0_1) (dL qb0 b1) (dL qb5 r0.2)).bind fun r1 =>
 (gL qb2 r1.1.2.2.1<|
 (gL qb2 r1.2.1.1<|
 (gL qb0 r1.2.1.2<|
 (gL qb0 r1.2.2.1<|
 (qtz r1.1.2.1 (dL qb2 r1.1.2.2.1) r1.1.2.2.2.1 (wI r1.1.2.2.2.2.1) (dL qb2 r1.2.1.1) (dL qb0 r1.2.1.2) (dL qb0 r1.2.2.1)))))))))))))))
 (gL qb2 t11<|
 (gL qb2 b0<|
 (gL qb0 b0_1<|
 (gL qb0 b1<|
 (some (((),(out,((dL qb2 t11),(t12,(t13,false))))),(((dL qb2 b0),(dL qb0 b0_1)),(dL qb0 b1)))))))))
theorem qu1 {out t11 t12 t13 b0 b0_1 b1 r} (h:qu5 out t11 t12 t13 b0 b0_1 b1=some r):qtz out t11 t12 t13 b0 b0_1 b1=some r :=
 qrh (es:=q1iy) (hs:=[]) [qu7] (by kernel_rfl) ⟨⟨_,rfl,rfl⟩,trivial⟩ trivial (by kernel_rfl) h
def qu0:=qs5 Tryz.prog lv X0 3 (qnb (cdF Tryz.f67) 3) qu4 qu2 (fun x=>qtz x.1.2.1 x.1.2.2.1 x.1.2.2.2.1 x.1.2.2.2.2 x.2.1.1 x.2.1.2 x.2.2) (fun _ _ h=>qrg h)
def qtw:Cod (V×List B) (Nat×(List Int)):=(cPair (vRow 0) (qrf (bRow qb0)))
def qud (qt2:L55) (qsy:(List Int)):=fS Tryz.prog lv X0 67 qtv qtw (qt2,qsy)
def que (qt2:L55) (qsy:(List Int)):Oq (Nat×(List Int)) :=
 (gL qb2 qt2<|
 (gL qb2 qt2<|
 (gL qb0 qsy<|
 ((qtz 0 (dL qb2 qt2) (lN qb2 qt2:Int) 0 (dL qb2 qt2) (dL qb0 qsy) (EC.decL qb0 [])).bind fun r0 =>
 (gdE ((((aL [[(C.int Go.IntKind.u8 13)],[(C.int Go.IntKind.u8 10)]] 1)&&(aL (EC.encL qb0 r0.2.2) 1))&&(dQ (r0.1.2.1+(List.length [[(C.int Go.IntKind.u8 13)],[(C.int Go.IntKind.u8 10)]])) 1))&&(decide ((r0.1.2.1+(List.length [[(C.int Go.IntKind.u8 13)],[(C.int Go.IntKind.u8 10)]]))≤9223372036854775807)))<|
 (gdE ((((aL (EC.encL qb0 r0.2.1.2) 1)&&(aL ((EC.encL qb0 r0.2.2)++[[(C.int Go.IntKind.u8 13)],[(C.int Go.IntKind.u8 10)]]) 1))&&(dQ ((r0.1.2.1+(List.length [[(C.int Go.IntKind.u8 13)],[(C.int Go.IntKind.u8 10)]]))+(lN qb0 r0.2.1.2)) 1))&&(decide (((r0.1.2.1+(List.length [[(C.int Go.IntKind.u8 13)],[(C.int Go.IntKind.u8 10)]]))+(lN qb0 r0.2.1.2))≤9223372036854775807)))<|
 (gdE (EC.isL qb0 (((EC.encL qb0 r0.2.2)++[[(C.int Go.IntKind.u8 13)],[(C.int Go.IntKind.u8 10)]])++(EC.encL qb0 r0.2.1.2)))<|
 (some (((r0.1.2.1+(List.length [[(C.int Go.IntKind.u8 13)],[(C.int Go.IntKind.u8 10)]]))+(lN qb0 r0.2.1.2)),(EC.decL qb0 (((EC.encL qb0 r0.2.2)++[[(C.int Go.IntKind.u8 13)],[(C.int Go.IntKind.u8 10)]])++(EC.encL qb0 r0.2.1.2))))))))))))
theorem qty {qt2 qsy r} (h:que qt2 qsy=some r):qud qt2 qsy=some r :=
 qjn (es:=q1iy) (hs:=[]) [qu0] Tryz.func67 rfl (by kernel_rfl) rfl (by kernel_rfl) (by kernel_rfl) ⟨⟨_,rfl,rfl⟩,trivial⟩ trivial (by kernel_rfl) h
def qtx:=entS Tryz.prog lv X0 67 [] qtv qtw (fun x=>qud x.1 x.2) (fun _ _ h=>qjm h)
def q1j6:=qtx::q1iy
def qtp:=(qrf (vC (cSl qb0)))
def qtq:Cod (V×List B) (Int×Int):=z39
def qtt (b:(List Int)):=fS Tryz.prog lv X0 91 qtp qtq b
def qtu (b:(List Int)):Oq (Int×Int) :=
 (gL qb0 b<|
 ((q5p (dL qb0 b)).bind fun r0 =>
 (brE (r0==11)
 ((q61 11 (-5)).bind fun r1 =>
 (some (r1.1,r1.2)))
 (brE (r0==1)
 ((q61 1 (-6)).bind fun r1 =>
 (some (r1.1,r1.2)))
 (Option.bind q72 fun r1 =>
 (some (r1.1,r1.2)))))))
theorem qts {b r} (h:qtu b=some r):qtt b=some r :=
 qjn (es:=q1j6) (hs:=[]) [] Tryz.func91 rfl (by kernel_rfl) rfl (by kernel_rfl) (by kernel_rfl) trivial trivial (by kernel_rfl) h
def qtr:=entS Tryz.prog lv X0 91 [] qtp qtq (fun x=>qtt x) (fun _ _ h=>qjm h)
def q1j5:=qtr::q1j6
def qtd:=(qrf (vAgg z35))
def qte:Cod (V×List B) (Int×Int):=z39
def qth (qt2:L55) (qsy:(List Int)):=fS Tryz.prog lv X0 66 qtd qte (qt2,qsy)
def qti (qt2:L55) (qsy:(List Int)):Oq (Int×Int) :=
 (gL qb2 qt2<|
 ((qoo (dL qb2 qt2)).bind fun r0 =>
 ((q5v r0.1 r0.2).bind fun r1 =>
 (brE r1
 (some (r0.1,r0.2))
 (gL qb2 qt2<|
 (gL qb0 qsy<|
 ((qud (dL qb2 qt2) (dL qb0 qsy)).bind fun r2 =>
 (brE (decide (((r2.1:Nat):Int)>12000))
 ((q61 1 (-4)).bind fun r3 =>
 (some (r3.1,r3.2)))
 (gL qb0 qsy<|
 ((qtt (dL qb0 qsy)).bind fun r3 =>
 (some (r3.1,r3.2))))))))))))
theorem qtg {qt2 qsy r} (h:qti qt2 qsy=some r):qth qt2 qsy=some r :=
 qjn (es:=q1j5) (hs:=[]) [] Tryz.func66 rfl (by kernel_rfl) rfl (by kernel_rfl) (by kernel_rfl) trivial trivial (by kernel_rfl) h
def qtf:=entS Tryz.prog lv X0 66 [] qtd qte (fun x=>qth x.1 x.2) (fun _ _ h=>qjm h)
def q1j3:=qtf::q1j5
def qtj:=(qrf (vAgg z35))
def qtk:Cod (V×List B) ((Nat×(Int×Int))×(List Int)):=(cPair z3j (qrf (bRow qb0)))
def qtn (qt2:L55) (qsy:(List Int)):=fS Tryz.prog lv X0 42 qtj qtk (qt2,qsy)
def qto (qt2:L55) (qsy:(List Int)):Oq ((Nat×(Int×Int))×(List Int)) :=
 (gL qb2 qt2<|
 (gL qb0 qsy<|
 ((qth (dL qb2 qt2) (dL qb0 qsy)).bind fun r0 =>
 ((q5v r0.1 r0.2).bind fun r1 =>
 (brE r1
 (some ((0,(r0.1,r0.2)),(EC.decL qb0 [])))
 (gL qb2 qt2<|
 (gL qb0 qsy<|
 ((qud (dL qb2 qt2) (dL qb0 qsy)).bind fun r2 =>
 (Option.bind q72 fun r3 =>
 (gL qb0 r2.2<|
 (some ((r2.1,(r3.1,r3.2)),(dL qb0 r2.2)))))))))))))
theorem qtm {qt2 qsy r} (h:qto qt2 qsy=some r):qtn qt2 qsy=some r :=
 qjn (es:=q1j3) (hs:=[]) [] Tryz.func42 rfl (by kernel_rfl) rfl (by kernel_rfl) (by kernel_rfl) trivial trivial (by kernel_rfl) h
def qtl:=entS Tryz.prog lv X0 42 [] qtj qtk (fun x=>qtn x.1 x.2) (fun _ _ h=>qjm h)
def q1j4:=qtl::q1j3
def qc3:=z3f
def qc4:Cod (V×List B) Bool:=z34
def qc7 (c:Int):=fS Tryz.prog lv X0 140 qc3 qc4 c
def qc8 (c:Int):Oq Bool :=
 (brE ((decide (c≥97))==true)
 (brE ((decide (c≤122))==false)
 (brE ((decide (c≥48))==true)
 (brE ((decide (c≤57))==false)
 (brE ((c==45)==false)
 (some (c==46))
 (some true))
 (some true))
 (brE ((c==45)==false)
 (some (c==46))
 (some true)))
 (some true))
 (brE ((decide (c≥48))==true)
 (brE ((decide (c≤57))==false)
 (brE ((c==45)==false)
 (some (c==46))
 (some true))
 (some true))
 (brE ((c==45)==false)
 (some (c==46))
 (some true))))
theorem qc6 {c r} (h:qc8 c=some r):qc7 c=some r :=
 qjn (es:=q1j4) (hs:=[]) [] Tryz.func140 rfl (by kernel_rfl) rfl (by kernel_rfl) (by kernel_rfl) trivial trivial (by kernel_rfl) h
def qc5:=entS Tryz.prog lv X0 140 [] qc3 qc4 (fun x=>qc7 x) (fun _ _ h=>qjm h)
def q1ih:=qc5::q1j4
def q16:Cod (List V) (ByteArray×Unit):=(qrd (vC cStr) (qrf (vFn 140 qre)))
def q1g:=sLS [0,1,7,8] (qrd (vC cStr) (qrd (vFn 140 qre) z32)) qre [] [] (by decide) (fun _=>rfl)
def q1f:=sLS [0,1,7,8,9] (qrd (vC cStr) (qrd (vFn 140 qre) z33)) qre [] [] (by decide) (fun _=>rfl)
def q1e:=sLS [4] z3g qre [] [] (by decide) (fun _=>rfl)
def q1d:=oOr 1 q1e (oAt 2 q1f) (fun x=>(by decide:(2:Nat)≠1))
def q1a (s:BA) (t7 t8:Int):=lS Tryz.prog lv X0 84 18 (qnb (cdF Tryz.f84) 2) q1g q1d ((s,(),t7,t8),())
def q1h (s:BA) (t7 t8:Int):Oq ((Bool×Unit)⊕((BA×Unit×Int×Int×Bool)×Unit)) :=
 (brE (decide (t8<t7))
 (gdE ((p0 t8)&&(decide ((Int.toNat t8)<s.size)))<|
 ((qc7 (((UInt8.toNat (Array.getD s.data (Int.toNat t8) (0:UInt8))):Nat):Int)).bind fun r0 =>
 (brE (!r0)
 (some (.inl (false,())))
 (q1a s t7 (wI t8)))))
 (some (.inr ((s,((),(t7,(t8,false)))),()))))
theorem q1c {s t7 t8 r} (h:q1h s t7 t8=some r):q1a s t7 t8=some r :=
 qrh (es:=q1ih) (hs:=[]) [] (by kernel_rfl) trivial trivial (by kernel_rfl) h
def q1b:=qs5 Tryz.prog lv X0 2 (qnb (cdF Tryz.f84) 2) q1g q1d (fun x=>q1a x.1.1 x.1.2.2.1 x.1.2.2.2) (fun _ _ h=>qrg h)
def q17:Cod (V×List B) Bool:=z34
def q1k (s:BA):=fS Tryz.prog lv X0 84 q16 q17 (s,())
def q1m (s:BA):Oq Bool :=
 ((q1a s (s.size:Int) 0).bind fun r0 =>
 (Sum.elim (fun r1=>(some r1.1))
 (fun r1=>(some true)) r0))
theorem q19 {s r} (h:q1m s=some r):q1k s=some r :=
 qjn (es:=q1ih) (hs:=[]) [q1b] Tryz.func84 rfl (by kernel_rfl) rfl (by kernel_rfl) (by kernel_rfl) ⟨⟨_,rfl,rfl⟩,trivial⟩ trivial (by kernel_rfl) h
def q18:=entS Tryz.prog lv X0 84 [140] q16 q17 (fun x=>q1k x.1) (fun _ _ h=>qjm h)
def q1i0:=q18::q1ih
def qc9:=z38
def qca:Cod (V×List B) Bool:=z34
def qcd (s:BA):=fS Tryz.prog lv X0 113 qc9 qca s
def qce (s:BA):Oq Bool :=
 (brE ((!(s.toList==(ByteArray.toList ⟨#[]⟩)))==true)
 (brE ((decide ((s.size:Int)≤60))==true)
 ((q1k s).bind fun r0 =>
 (brE (r0==true)
 ((q1h0 s (ByteArray.mk (List.toArray [(46:UInt8)]))).bind fun r1 =>
 (brE ((!r1)==true)
 ((q1h6 s (ByteArray.mk (List.toArray [(46:UInt8)]))).bind fun r2 =>
 (brE ((!r2)==true)
 ((contP s (ByteArray.mk (List.toArray [(46:UInt8),(46:UInt8)]))).bind fun r3 =>
 (some (!r3)))
 (some false)))
 (some false)))
 (some false)))
 (some false))
 (some false))
theorem qcc {s r} (h:qce s=some r):qcd s=some r :=
 qjn (es:=q1i0) (hs:=[]) [] Tryz.func113 rfl (by kernel_rfl) rfl (by kernel_rfl) (by kernel_rfl) trivial trivial (by kernel_rfl) h
def qcb:=entS Tryz.prog lv X0 113 [] qc9 qca (fun x=>qcd x) (fun _ _ h=>qjm h)
def q1ig:=qcb::q1i0
def qcz:=z3f
def qd0:Cod (V×List B) Bool:=z34
def qd3 (c:Int):=fS Tryz.prog lv X0 111 qcz qd0 c
def qd4 (c:Int):Oq Bool :=
 ((q67 c).bind fun r0 =>
 (brE (r0==false)
 (some (decide ((Go.Lib.indexByte (Array.toList (List.toArray [(45:UInt8),(95:UInt8),(46:UInt8),(43:UInt8),(61:UInt8)])) (Nat.toUInt8 (Int.toNat c)))≥0)))
 (some true)))
theorem qd2 {c r} (h:qd4 c=some r):qd3 c=some r :=
 qjn (es:=q1ig) (hs:=[]) [] Tryz.func111 rfl (by kernel_rfl) rfl (by kernel_rfl) (by kernel_rfl) trivial trivial (by kernel_rfl) h
def qd1:=entS Tryz.prog lv X0 111 [] qcz qd0 (fun x=>qd3 x) (fun _ _ h=>qjm h)
def q1il:=qd1::q1ig
def q25:Cod (List V) (ByteArray×Unit):=(qrd (vC cStr) (qrf (vFn 111 qre)))
def q2f:=sLS [0,1,7,8] (qrd (vC cStr) (qrd (vFn 111 qre) z32)) qre [] [] (by decide) (fun _=>rfl)
def q2e:=sLS [0,1,7,8,9] (qrd (vC cStr) (qrd (vFn 111 qre) z33)) qre [] [] (by decide) (fun _=>rfl)
def q2d:=sLS [4] z3g qre [] [] (by decide) (fun _=>rfl)
def q2c:=oOr 1 q2d (oAt 2 q2e) (fun x=>(by decide:(2:Nat)≠1))
def q29 (s:BA) (t7 t8:Int):=lS Tryz.prog lv X0 84 18 (qnb (cdF Tryz.f84) 2) q2f q2c ((s,(),t7,t8),())
def q2g (s:BA) (t7 t8:Int):Oq ((Bool×Unit)⊕((BA×Unit×Int×Int×Bool)×Unit)) :=
 (brE (decide (t8<t7))
 (gdE ((p0 t8)&&(decide ((Int.toNat t8)<s.size)))<|
 ((qd3 (((UInt8.toNat (Array.getD s.data (Int.toNat t8) (0:UInt8))):Nat):Int)).bind fun r0 =>
 (brE (!r0)
 (some (.inl (false,())))
 (q29 s t7 (wI t8)))))
 (some (.inr ((s,((),(t7,(t8,false)))),()))))
theorem q2b {s t7 t8 r} (h:q2g s t7 t8=some r):q29 s t7 t8=some r :=
 qrh (es:=q1il) (hs:=[]) [] (by kernel_rfl) trivial trivial (by kernel_rfl) h
def q2a:=qs5 Tryz.prog lv X0 2 (qnb (cdF Tryz.f84) 2) q2f q2c (fun x=>q29 x.1.1 x.1.2.2.1 x.1.2.2.2) (fun _ _ h=>qrg h)
def q26:Cod (V×List B) Bool:=z34
def q2j (s:BA):=fS Tryz.prog lv X0 84 q25 q26 (s,())
def q2l (s:BA):Oq Bool :=
 ((q29 s (s.size:Int) 0).bind fun r0 =>
 (Sum.elim (fun r1=>(some r1.1))
 (fun r1=>(some true)) r0))
theorem q28 {s r} (h:q2l s=some r):q2j s=some r :=
 qjn (es:=q1il) (hs:=[]) [q2a] Tryz.func84 rfl (by kernel_rfl) rfl (by kernel_rfl) (by kernel_rfl) ⟨⟨_,rfl,rfl⟩,trivial⟩ trivial (by kernel_rfl) h
def q27:=entS Tryz.prog lv X0 84 [111] q25 q26 (fun x=>q2j x.1) (fun _ _ h=>qjm h)
def q1i2:=q27::q1il
def qd5:=z38
def qd6:Cod (V×List B) (ByteArray×ByteArray×Bool):=(cFstU (cPair (vTup (qrd (vC cStr) (qrd (vC cStr) z3g))) qre))
def qd9 (s:BA):=fS Tryz.prog lv X0 83 qd5 qd6 s
def qda (s:BA):Oq (BA×BA×Bool) :=
 ((cutP s (ByteArray.mk (List.toArray [(64:UInt8)]))).bind fun r0 =>
 (brE (r0.2.2==true)
 (brE ((!(r0.1.toList==(ByteArray.toList ⟨#[]⟩)))==true)
 (brE ((decide (((r0.1.size:Nat):Int)≤60))==true)
 ((q2j r0.1).bind fun r1 =>
 (brE (r1==true)
 ((qcd r0.2.1).bind fun r2 =>
 (some (r0.1,(r0.2.1,r2))))
 (some (r0.1,(r0.2.1,false)))))
 (some (r0.1,(r0.2.1,false))))
 (some (r0.1,(r0.2.1,false))))
 (some (r0.1,(r0.2.1,false)))))
theorem qd8 {s r} (h:qda s=some r):qd9 s=some r :=
 qjn (es:=q1i2) (hs:=[]) [] Tryz.func83 rfl (by kernel_rfl) rfl (by kernel_rfl) (by kernel_rfl) trivial trivial (by kernel_rfl) h
def qd7:=entS Tryz.prog lv X0 83 [] qd5 qd6 (fun x=>qd9 x) (fun _ _ h=>qjm h)
def q1ik:=qd7::q1i2
def qbx:=z38
def qby:Cod (V×List B) Bool:=z34
def qc1 (s:BA):=fS Tryz.prog lv X0 63 qbx qby s
def qc2 (s:BA):Oq Bool :=
 ((qd9 s).bind fun r0 =>
 (some r0.2.2))
theorem qc0 {s r} (h:qc2 s=some r):qc1 s=some r :=
 qjn (es:=q1ik) (hs:=[]) [] Tryz.func63 rfl (by kernel_rfl) rfl (by kernel_rfl) (by kernel_rfl) trivial trivial (by kernel_rfl) h
def qbz:=entS Tryz.prog lv X0 63 [] qbx qby (fun x=>qc1 x) (fun _ _ h=>qjm h)
def q1if:=qbz::q1ik
def qcf:=(qrf z3a)
def qcg:Cod (V×List B) Bool:=z34
def qcj (n:Int):=fS Tryz.prog lv X0 87 qcf qcg n
def qck (n:Int):Oq Bool :=
 (brE ((decide (n≥0))==true)
 (some (decide (n≤7)))
 (some false))
theorem qci {n r} (h:qck n=some r):qcj n=some r :=
 qjn (es:=q1if) (hs:=[]) [] Tryz.func87 rfl (by kernel_rfl) rfl (by kernel_rfl) (by kernel_rfl) trivial trivial (by kernel_rfl) h
def qch:=entS Tryz.prog lv X0 87 [] qcf qcg (fun x=>qcj x) (fun _ _ h=>qjm h)
def q1ii:=qch::q1if
abbrev z3b:=(qrf (vEptr (qrd cStr (qrf (cInt .i64))) 0))
def q1ad:=(qrd (vAgg (qrd (vC cStr) (qrf z3a))) z3b)
def q1ae:Cod (V×List B) Bool:=z34
def q1ah (q1m8:BA) (q1m9:Int) (c1_0:BA) (c1_1:Int):=fS Tryz.prog lv X0 89 q1ad q1ae ((q1m8,q1m9),(c1_0,c1_1))
def q1ai (q1m8:BA) (q1m9:Int) (c1_0:BA) (c1_1:Int):Oq Bool :=
 (some (q1m8.toList==c1_0.toList))
theorem q1ag {q1m8 q1m9 c1_0 c1_1 r} (h:q1ai q1m8 q1m9 c1_0 c1_1=some r):q1ah q1m8 q1m9 c1_0 c1_1=some r :=
 qjn (es:=q1ii) (hs:=[]) [] Tryz.func89 rfl (by kernel_rfl) rfl (by kernel_rfl) (by kernel_rfl) trivial trivial (by kernel_rfl) h
def q1af:=entS Tryz.prog lv X0 89 [] q1ad q1ae (fun x=>q1ah x.1.1 x.1.2 x.2.1 x.2.2) (fun _ _ h=>qjm h)
def q1k2:=q1af::q1ii
structure S118 where
 Address:ByteArray
 Notify:Int
abbrev L118:=List S118
def qau:EC S118 where
 enc x:=[.str x.Address,.int .i64 x.Notify]
 dec c:=⟨q1gu (c.getD 0 .ne),qqd (c.getD 1 .ne)⟩
 is c:=isE [.str,.int .i64] 0 c
 enc_dec h:=q9x h
 dec_enc x:=by rfl
 is_enc x:=by simp [isE,isK]
theorem qbo (x:S118):qau.enc x=[.str x.Address,.int .i64 x.Notify]:=rfl
theorem qqm (xs:List S118) (n:Nat):isE [.str,.int .i64] 0 ((qau.encL xs).getD n [])=decide (n<xs.length):=by
 by_cases h:n<xs.length
 ·simp only [EC.getD_lt _ _ h];simp [qbo,isE,isK,h]
 ·simp only [EC.getD_ge _ _ (Nat.not_lt.1 h)];simp [isE,isK,h]
theorem q42 (xs:List S118) (n:Nat):q1gu (((qau.encL xs).getD n []).getD 0 .ne)=(xs.getD n (qau.dec [])).Address:=by
 by_cases h:n<xs.length
 ·simp only [EC.getD_lt _ _ h];simp [qbo,h,q1gu,List.getD_eq_getElem?_getD]
 ·simp only [EC.getD_ge _ _ (Nat.not_lt.1 h)];simp [Nat.not_lt.1 h,qau,q1gu,qqd,List.getD_eq_getElem?_getD]
theorem q43 (xs:List S118) (n:Nat):qqd (((qau.encL xs).getD n []).getD 1 .ne)=(xs.getD n (qau.dec [])).Notify:=by
 by_cases h:n<xs.length
 ·simp only [EC.getD_lt _ _ h];simp [qbo,h,qqd,List.getD_eq_getElem?_getD]
 ·simp only [EC.getD_ge _ _ (Nat.not_lt.1 h)];simp [Nat.not_lt.1 h,qau,q1gu,qqd,List.getD_eq_getElem?_getD]
theorem q3i (xs:List S118):(qau.encL xs).all (fun (el:List C)=>el.length==2)=true:=by induction xs with|nil=>rfl|cons x xs ih=>first|(simp [EC.encL,qbo];done)|simpa [EC.encL,qbo] using ih
abbrev z3e:=(vC (cSl qau))
def qpq:=(qrd z3e (qrf (vFn 89 z3b)))
def qq0:=sLS [0,1,7,8] (qrd z3e (qrd (vFn 89 z3b) z32)) qre [] [] (by decide) (fun _=>rfl)
def qpz:=sLS [0,1,7,8,9] (qrd z3e (qrd (vFn 89 z3b) z33)) qre [] [] (by decide) (fun _=>rfl)
def qpy:=sLS [4] (qrf z3a) qre [] [] (by decide) (fun _=>rfl)
def qpx:=oOr 1 qpy (oAt 2 qpz) (fun x=>(by decide:(2:Nat)≠1))
def qpu (s:L118) (f:BA) (f_1 t7 t8:Int):=lS Tryz.prog lv X0 114 19 (qnb (cdF Tryz.f114) 2) qq0 qpx ((s,(f,f_1),t7,t8),())
def qq1 (s:L118) (f:BA) (f_1 t7 t8:Int):Oq ((Int×Unit)⊕((L118×(BA×Int)×Int×Int×Bool)×Unit)) :=
 (brE (decide (t8<t7))
 (gdE (p0 t8)<|
 (gdE (eC qau s t8 [K1.str,(K1.int Go.IntKind.i64)])<|
 ((q1ah (q1gu (List.getD (List.getD (EC.encL qau s) (Int.toNat t8) []) 0 C.ne)) (qqd (List.getD (List.getD (EC.encL qau s) (Int.toNat t8) []) 1 C.ne)) f f_1).bind fun r0 =>
 (brE r0
 (some (.inl (t8,())))
 (gL qau s<|
 (qpu (dL qau s) f f_1 t7 (wI t8)))))))
 (gL qau s<|
 (some (.inr (((dL qau s),((f,f_1),(t7,(t8,false)))),())))))
theorem qpw {s f f_1 t7 t8 r} (h:qq1 s f f_1 t7 t8=some r):qpu s f f_1 t7 t8=some r :=
 qrh (es:=q1k2) (hs:=[]) [] (by kernel_rfl) trivial trivial (by kernel_rfl) h
def qpv:=qs5 Tryz.prog lv X0 2 (qnb (cdF Tryz.f114) 2) qq0 qpx (fun x=>qpu x.1.1 x.1.2.1.1 x.1.2.1.2 x.1.2.2.1 x.1.2.2.2) (fun _ _ h=>qrg h)
def qpr:Cod (V×List B) Int:=(cFstU (cPair z3a qre))
def qq3 (s:L118) (f_0:BA) (f_1:Int):=fS Tryz.prog lv X0 114 qpq qpr (s,(f_0,f_1))
def qq4 (s:L118) (f_0:BA) (f_1:Int):Oq Int :=
 (gL qau s<|
 ((qpu (dL qau s) f_0 f_1 (lN qau s:Int) 0).bind fun r0 =>
 (Sum.elim (fun r1=>(some r1.1))
 (fun r1=>(some (-1:Int))) r0)))
theorem qpt {s f_0 f_1 r} (h:qq4 s f_0 f_1=some r):qq3 s f_0 f_1=some r :=
 qjn (es:=q1k2) (hs:=[]) [qpv] Tryz.func114 rfl (by kernel_rfl) rfl (by kernel_rfl) (by kernel_rfl) ⟨⟨_,rfl,rfl⟩,trivial⟩ trivial (by kernel_rfl) h
def qps:=entS Tryz.prog lv X0 114 [89] qpq qpr (fun x=>qq3 x.1 x.2.1 x.2.2) (fun _ _ h=>qjm h)
def q1j2:=qps::q1k2
def qnq:=(qrd z3e (qrf (vFn 89 z3b)))
def qnr:Cod (V×List B) Bool:=z34
def qnv (s:L118) (f_0:BA) (f_1:Int):=fS Tryz.prog lv X0 88 qnq qnr (s,(f_0,f_1))
def qnw (s:L118) (f_0:BA) (f_1:Int):Oq Bool :=
 (gL qau s<|
 ((qq3 (dL qau s) f_0 f_1).bind fun r0 =>
 (some (decide (r0≥0)))))
theorem qnt {s f_0 f_1 r} (h:qnw s f_0 f_1=some r):qnv s f_0 f_1=some r :=
 qjn (es:=q1j2) (hs:=[]) [] Tryz.func88 rfl (by kernel_rfl) rfl (by kernel_rfl) (by kernel_rfl) trivial trivial (by kernel_rfl) h
def qns:=entS Tryz.prog lv X0 88 [89] qnq qnr (fun x=>qnv x.1 x.2.1 x.2.2) (fun _ _ h=>qjm h)
def q1ix:=qns::q1j2
def qcl:=(qrf z3e)
def qcv:=sLS [0,2,5,6,7] (qrd z3e (qrd (vPtr 0 0) (qrd z3e z32))) z3c [false] [] (by decide) (fun _=>rfl)
def qcu:=sLS [0,2,5,6,7,8] (qrd z3e (qrd (vPtr 0 0) (qrd z3e z33))) z3c [false] [] (by decide) (fun _=>rfl)
def qct:=sLS [2] (qrf (vPtr 0 0)) z3c [false] [] (by decide) (fun _=>rfl)
def qcs:=oOr 1 qct (oAt 2 qcu) (fun x=>(by decide:(2:Nat)≠1))
def qcp (l t5:L118) (t6 t7:Int) (b0 b0_1:Int):=lS Tryz.prog lv X0 65 36 (qnb (cdF Tryz.f65) 2) qcv qcs ((l,(),t5,t6,t7),(b0,b0_1))
def qcw (l t5:L118) (t6 t7:Int) (b0 b0_1:Int):Oq ((Unit×(Int×Int))⊕((L118×Unit×L118×Int×Int×Bool)×(Int×Int))) :=
 (brE (decide (t7<t6))
 (gdE (p0 t7)<|
 (gdE (eC qau t5 t7 [K1.str,(K1.int Go.IntKind.i64)])<|
 ((qc1 (q1gu (List.getD (List.getD (EC.encL qau t5) (Int.toNat t7) []) 0 C.ne))).bind fun r0 =>
 (brE (!r0)
 ((q61 10 t7).bind fun r1 =>
 (some (.inl ((),(r1.1,r1.2)))))
 ((qcj (qqd (List.getD (List.getD (EC.encL qau t5) (Int.toNat t7) []) 1 C.ne))).bind fun r1 =>
 (brE (!r1)
 ((q61 3 t7).bind fun r2 =>
 (some (.inl ((),(r2.1,r2.2)))))
 (gdE ((p0 t7)&&(decide (t7≤(lN qau l:Int))))<|
 (gdE (aL (EC.encL qau l) 2)<|
 (gdE (EC.isL qau (List.take ((Int.toNat t7) - 0) (List.drop 0 (EC.encL qau l))))<|
 ((qnv (EC.decL qau (List.take ((Int.toNat t7) - 0) (List.drop 0 (EC.encL qau l)))) (q1gu (List.getD (List.getD (EC.encL qau t5) (Int.toNat t7) []) 0 C.ne)) (qqd (List.getD (List.getD (EC.encL qau t5) (Int.toNat t7) []) 1 C.ne))).bind fun r2 =>
 (brE r2
 ((q61 7 t7).bind fun r3 =>
 (some (.inl ((),(r3.1,r3.2)))))
 (gL qau l<|
 (gL qau t5<|
 (qcp (dL qau l) (dL qau t5) t6 (wI t7) b0 b0_1))))))))))))))
 (gL qau l<|
 (gL qau t5<|
 (some (.inr (((dL qau l),((),((dL qau t5),(t6,(t7,false))))),(b0,b0_1)))))))
theorem qcr {l t5 t6 t7 b0 b0_1 r} (h:qcw l t5 t6 t7 b0 b0_1=some r):qcp l t5 t6 t7 b0 b0_1=some r :=
 qrh (es:=q1ix) (hs:=[]) [] (by kernel_rfl) trivial trivial (by kernel_rfl) h
def qcq:=qs5 Tryz.prog lv X0 2 (qnb (cdF Tryz.f65) 2) qcv qcs (fun x=>qcp x.1.1 x.1.2.2.1 x.1.2.2.2.1 x.1.2.2.2.2 x.2.1 x.2.2) (fun _ _ h=>qrg h)
def qcm:Cod (V×List B) (Int×Int):=z39
def qcx (l:L118):=fS Tryz.prog lv X0 65 qcl qcm l
def qcy (l:L118):Oq (Int×Int) :=
 (gL qau l<|
 (gL qau l<|
 ((qcp (dL qau l) (dL qau l) (lN qau l:Int) 0 0 0).bind fun r0 =>
 (Sum.elim (fun r1=>(some (r1.2.1,r1.2.2)))
 (fun r1=>(Option.bind q72 fun r2 =>
 (some (r2.1,r2.2)))) r0))))
theorem qco {l r} (h:qcy l=some r):qcx l=some r :=
 qjn (es:=q1ix) (hs:=[]) [qcq] Tryz.func65 rfl (by kernel_rfl) rfl (by kernel_rfl) (by kernel_rfl) ⟨⟨_,rfl,rfl⟩,trivial⟩ trivial (by kernel_rfl) h
def qcn:=entS Tryz.prog lv X0 65 [] qcl qcm (fun x=>qcx x) (fun _ _ h=>qjm h)
def q1ij:=qcn::q1ix
def qdb:=(qrf (vAgg (qrd (vC cStr) (qrd z3e z38))))
def qdc:Cod (V×List B) (Int×Int):=z39
def qdf (e_From:BA) (e_To:L118) (e_Id:BA):=fS Tryz.prog lv X0 40 qdb qdc (e_From,e_To,e_Id)
def qdg (e_From:BA) (e_To:L118) (e_Id:BA):Oq (Int×Int) :=
 (brE ((!(e_From.toList==(ByteArray.toList ⟨#[]⟩)))==true)
 ((qc1 e_From).bind fun r0 =>
 (brE (!r0)
 ((q61 10 (-10)).bind fun r1 =>
 (some (r1.1,r1.2)))
 (brE ((decide ((lN qau e_To:Int)<1))==false)
 (brE (decide ((lN qau e_To:Int)>60))
 ((q61 2 (-11)).bind fun r1 =>
 (some (r1.1,r1.2)))
 (brE ((!(e_Id.toList==(ByteArray.toList ⟨#[]⟩)))==true)
 ((q6w e_Id).bind fun r1 =>
 (brE (!r1)
 ((q61 10 (-12)).bind fun r2 =>
 (some (r2.1,r2.2)))
 (gL qau e_To<|
 ((qcx (dL qau e_To)).bind fun r2 =>
 (some (r2.1,r2.2))))))
 (gL qau e_To<|
 ((qcx (dL qau e_To)).bind fun r1 =>
 (some (r1.1,r1.2))))))
 ((q61 2 (-11)).bind fun r1 =>
 (some (r1.1,r1.2))))))
 (brE ((decide ((lN qau e_To:Int)<1))==false)
 (brE (decide ((lN qau e_To:Int)>60))
 ((q61 2 (-11)).bind fun r0 =>
 (some (r0.1,r0.2)))
 (brE ((!(e_Id.toList==(ByteArray.toList ⟨#[]⟩)))==true)
 ((q6w e_Id).bind fun r0 =>
 (brE (!r0)
 ((q61 10 (-12)).bind fun r1 =>
 (some (r1.1,r1.2)))
 (gL qau e_To<|
 ((qcx (dL qau e_To)).bind fun r1 =>
 (some (r1.1,r1.2))))))
 (gL qau e_To<|
 ((qcx (dL qau e_To)).bind fun r0 =>
 (some (r0.1,r0.2))))))
 ((q61 2 (-11)).bind fun r0 =>
 (some (r0.1,r0.2)))))
theorem qde {e_From e_To e_Id r} (h:qdg e_From e_To e_Id=some r):qdf e_From e_To e_Id=some r :=
 qjn (es:=q1ij) (hs:=[]) [] Tryz.func40 rfl (by kernel_rfl) rfl (by kernel_rfl) (by kernel_rfl) trivial trivial (by kernel_rfl) h
def qdd:=entS Tryz.prog lv X0 40 [] qdb qdc (fun x=>qdf x.1 x.2.1 x.2.2) (fun _ _ h=>qjm h)
def q1im:=qdd::q1ij
def qz0:=(qrd z3a z32)
def qz1:Cod (V×List B) Bool:=z34
def qz4 (n low high:Int):=fS Tryz.prog lv X0 24 qz0 qz1 (n,low,high)
def qz5 (n low high:Int):Oq Bool :=
 (brE ((decide (low≤n))==true)
 (some (decide (n≤high)))
 (some false))
theorem qz3 {n low high r} (h:qz5 n low high=some r):qz4 n low high=some r :=
 qjn (es:=q1im) (hs:=[]) [] Tryz.func24 rfl (by kernel_rfl) rfl (by kernel_rfl) (by kernel_rfl) trivial trivial (by kernel_rfl) h
def qz2:=entS Tryz.prog lv X0 24 [] qz0 qz1 (fun x=>qz4 x.1 x.2.1 x.2.2) (fun _ _ h=>qjm h)
def q1je:=qz2::q1im
def qyh:=z32
def qyi:Cod (V×List B) (Int×Int):=z39
def qyl (code index:Int):=fS Tryz.prog lv X0 41 qyh qyi (code,index)
def qym (code index:Int):Oq (Int×Int) :=
 (some (code,index))
theorem qyk {code index r} (h:qym code index=some r):qyl code index=some r :=
 qjn (es:=q1je) (hs:=[]) [] Tryz.func41 rfl (by kernel_rfl) rfl (by kernel_rfl) (by kernel_rfl) trivial trivial (by kernel_rfl) h
def qyj:=entS Tryz.prog lv X0 41 [] qyh qyi (fun x=>qyl x.1 x.2) (fun _ _ h=>qjm h)
def q1jc:=qyj::q1je
def qz6:=z3f
def qz7:Cod (V×List B) Int:=(cFstU (cPair (vC (cInt .u8)) qre))
def qza (c:Int):=fS Tryz.prog lv X0 47 qz6 qz7 c
def qzb (c:Int):Oq Int :=
 ((qz4 (IntKind.wrap .i64 c) 65 90).bind fun r0 =>
 (brE r0
 (some (IntKind.wrap .u8 (c+32)))
 (some c)))
theorem qz9 {c r} (h:qzb c=some r):qza c=some r :=
 qjn (es:=q1jc) (hs:=[]) [] Tryz.func47 rfl (by kernel_rfl) rfl (by kernel_rfl) (by kernel_rfl) trivial trivial (by kernel_rfl) h
def qz8:=entS Tryz.prog lv X0 47 [] qz6 qz7 (fun x=>qza x) (fun _ _ h=>qjm h)
def q1jf:=qz8::q1jc
def qy3:=z3h
def qyd:=sLS [0,1,5] (qrd (vC cStr) (qrd (vC cStr) (qrf z3a))) qre [] [] (by decide) (fun _=>rfl)
def qyc:=sLS [0,1,5,14] (qrd (vC cStr) (qrd (vC cStr) (qrd z3a z3g))) qre [] [] (by decide) (fun _=>rfl)
def qyb:=sLS [4] z3g qre [] [] (by decide) (fun _=>rfl)
def qya:=oOr 1 qyb (oAt 2 qyc) (fun x=>(by decide:(2:Nat)≠1))
def qy7 (a b:BA) (i:Int):=lS Tryz.prog lv X0 21 26 (qnb (cdF Tryz.f21) 4) qyd qya ((a,b,i),())
def qye (a b:BA) (i:Int):Oq ((Bool×Unit)⊕((BA×BA×Int×Bool)×Unit)) :=
 (brE (decide (i<(a.size:Int)))
 (gdE ((p0 i)&&(decide ((Int.toNat i)<a.size)))<|
 ((qza (((UInt8.toNat (Array.getD a.data (Int.toNat i) (0:UInt8))):Nat):Int)).bind fun r0 =>
 (gdE ((p0 i)&&(decide ((Int.toNat i)<b.size)))<|
 ((qza (((UInt8.toNat (Array.getD b.data (Int.toNat i) (0:UInt8))):Nat):Int)).bind fun r1 =>
 (brE (r0 != r1)
 (some (.inl (false,())))
 (qy7 a b (wI i)))))))
 (some (.inr ((a,(b,(i,false))),()))))
theorem qy9 {a b i r} (h:qye a b i=some r):qy7 a b i=some r :=
 qrh (es:=q1jf) (hs:=[]) [] (by kernel_rfl) trivial trivial (by kernel_rfl) h
def qy8:=qs5 Tryz.prog lv X0 4 (qnb (cdF Tryz.f21) 4) qyd qya (fun x=>qy7 x.1.1 x.1.2.1 x.1.2.2) (fun _ _ h=>qrg h)
def qy4:Cod (V×List B) Bool:=z34
def qyf (a b:BA):=fS Tryz.prog lv X0 21 qy3 qy4 (a,b)
def qyg (a b:BA):Oq Bool :=
 (brE ((a.size:Int) != (b.size:Int))
 (some false)
 ((qy7 a b 0).bind fun r0 =>
 (Sum.elim (fun r1=>(some r1.1))
 (fun r1=>(some true)) r0)))
theorem qy6 {a b r} (h:qyg a b=some r):qyf a b=some r :=
 qjn (es:=q1jf) (hs:=[]) [qy8] Tryz.func21 rfl (by kernel_rfl) rfl (by kernel_rfl) (by kernel_rfl) ⟨⟨_,rfl,rfl⟩,trivial⟩ trivial (by kernel_rfl) h
def qy5:=entS Tryz.prog lv X0 21 [] qy3 qy4 (fun x=>qyf x.1 x.2) (fun _ _ h=>qjm h)
def q1jb:=qy5::q1jf
def qzc:=(qrd (vAgg z35) z38)
def qzl:=sLS [1,2,5,6] (qrd (vC cStr) (qrd (vPtr 0 0) (qrd (vRow 1) (qrf z3a)))) (qrd (qv4 (bBox z35)) (qrf (qv4 (bRow qb5)))) [false,false] [] (by decide) (fun _=>rfl)
def qzk:=sLS [1,2,5,6,11] (qrd (vC cStr) (qrd (vPtr 0 0) (qrd (vRow 1) (qrd z3a z3g)))) (qrd (qv4 (bBox z35)) (qrf (qv4 (bRow qb5)))) [false,false] [] (by decide) (fun _=>rfl)
def qzj:=oAt 2 qzk
def qzg (name:BA) (out:Nat) (i:Int) (b0:L55) (b0_1:(List Int)) (b1:LB):=lS Tryz.prog lv X0 93 32 (qnb (cdF Tryz.f93) 3) qzl qzj ((name,(),out,i),((b0,b0_1),b1))
def qzm (name:BA) (out:Nat) (i:Int) (b0:L55) (b0_1:(List Int)) (b1:LB):Oq ((BA×Unit×Nat×Int×Bool)×((L55×(List Int))×LB)) :=
 (brE (decide (i<(lN qb2 b0:Int)))
 (gdE (p0 i)<|
 (gdE (eC qb2 b0 i [K1.str,K1.str])<|
 ((qyf (q1gu (List.getD (List.getD (EC.encL qb2 b0) (Int.toNat i) []) 0 C.ne)) name).bind fun r0 =>
 (brE r0
 (gdE (p0 i)<|
 (gdE (eC qb2 b0 i [K1.str,K1.str])<|
 (gdE ((((aL [[(C.str (q1gu (List.getD (List.getD (EC.encL qb2 b0) (Int.toNat i) []) 1 C.ne)))]] 1)&&(aL (EC.encL qb5 b1) 1))&&(dQ (out+(List.length [[(C.str (q1gu (List.getD (List.getD (EC.encL qb2 b0) (Int.toNat i) []) 1 C.ne)))]])) 16))&&(decide ((out+(List.length [[(C.str (q1gu (List.getD (List.getD (EC.encL qb2 b0) (Int.toNat i) []) 1 C.ne)))]]))≤9223372036854775807)))<|
 (gL qb2 b0<|
 (gL qb0 b0_1<|
 (gdE (EC.isL qb5 ((EC.encL qb5 b1)++[[(C.str (q1gu (List.getD (List.getD (EC.encL qb2 b0) (Int.toNat i) []) 1 C.ne)))]]))<|
 (qzg name (out+(List.length [[(C.str (q1gu (List.getD (List.getD (EC.encL qb2 b0) (Int.toNat i) []) 1 C.ne)))]])) (wI i) (dL qb2 b0) (dL qb0 b0_1) (EC.decL qb5 ((EC.encL qb5 b1)++[[(C.str (q1gu (List.getD (List.getD (EC.encL qb2 b0) (Int.toNat i) []) 1 C.ne)))]])))))))))
 (gL qb2 b0<|
 (gL qb0 b0_1<|
 (gL qb5 b1<|
 (qzg name out (wI i) (dL qb2 b0) (dL qb0 b0_1) (dL qb5 b1)))))))))
 (gL qb2 b0<|
 (gL qb0 b0_1<|
 (gL qb5 b1<|
 (some ((name,((),(out,(i,false)))),(((dL qb2 b0),(dL qb0 b0_1)),(dL qb5 b1))))))))
theorem qzi {name out i b0 b0_1 b1 r} (h:qzm name out i b0 b0_1 b1=some r):qzg name out i b0 b0_1 b1=some r :=
 qrh (es:=q1jb) (hs:=[]) [] (by kernel_rfl) trivial trivial (by kernel_rfl) h
def qzh:=qs5 Tryz.prog lv X0 3 (qnb (cdF Tryz.f93) 3) qzl qzj (fun x=>qzg x.1.1 x.1.2.2.1 x.1.2.2.2 x.2.1.1 x.2.1.2 x.2.2) (fun _ _ h=>qrg h)
def qzd:Cod (V×List B) (Nat×(List ByteArray)):=(cPair (vRow 0) (qrf (bRow qb5)))
def qzn (qt2:L55) (qsy:(List Int)) (name:BA):=fS Tryz.prog lv X0 93 qzc qzd ((qt2,qsy),name)
def qzo (qt2:L55) (qsy:(List Int)) (name:BA):Oq (Nat×LB) :=
 (gL qb2 qt2<|
 (gL qb0 qsy<|
 ((qzg name 0 0 (dL qb2 qt2) (dL qb0 qsy) (EC.decL qb5 [])).bind fun r0 =>
 (gL qb5 r0.2.2<|
 (some (r0.1.2.2.1,(dL qb5 r0.2.2)))))))
theorem qzf {qt2 qsy name r} (h:qzo qt2 qsy name=some r):qzn qt2 qsy name=some r :=
 qjn (es:=q1jb) (hs:=[]) [qzh] Tryz.func93 rfl (by kernel_rfl) rfl (by kernel_rfl) (by kernel_rfl) ⟨⟨_,rfl,rfl⟩,trivial⟩ trivial (by kernel_rfl) h
def qze:=entS Tryz.prog lv X0 93 [] qzc qzd (fun x=>qzn x.1.1 x.1.2 x.2) (fun _ _ h=>qjm h)
def q1jg:=qze::q1jb
end
end Go.Proofs.YtokahibbkdbndaaGreatDoor
