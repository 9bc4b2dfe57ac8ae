/- Functions of the program as plain functions: made by program from the machine. -/
import Derived.Test.YtokahibbkdbndaaGreatDoorH6
import Derived.Test.YtokahibbkdbndaaGreatDoorZ31
namespace Go.Proofs.YtokahibbkdbndaaGreatDoor
open Go.RowKit
set_option maxRecDepth 100000
noncomputable section
def q17j:=(q279 (vC (cSl q26o)) (q27b (vC (cSl q26o))))
def q17t:=sLS [0,1,5] (q279 (vC (cSl q26o)) (q279 (vC (cSl q26o)) (q27b (vC (cInt .i64))))) q27a [] [] (by decide) (fun _=>rfl)
def q17s:=sLS [0,1,5,14] (q279 (vC (cSl q26o)) (q279 (vC (cSl q26o)) (q279 (vC (cInt .i64)) (q27b (vC cBool))))) q27a [] [] (by decide) (fun _=>rfl)
def q17r:=sLS [4] (q27b (vC cBool)) q27a [] [] (by decide) (fun _=>rfl)
def q17q:=oOr 1 q17r (oAt 2 q17s) (fun x=>(by decide:(2:Nat)≠1))
def q17n (a:(List S45)) (b:(List S45)) (i:Int):Option ((Bool × Unit) ⊕ (((List S45) × (List S45) × Int × Bool) × Unit)):=lS Tryz.prog lv X0 17 26 (q270 (cdF Tryz.f17) 4) q17t q17q ((a,b,i),())
def q17u (a:(List S45)) (b:(List S45)) (i:Int):Option ((Bool × Unit) ⊕ (((List S45) × (List S45) × Int × Bool) × Unit)) :=
 (brE (decide (i<(List.length (EC.encL q26o a):Int)))
 (gdE (decide (0≤i)) <|
 (gdE ((decide ((Int.toNat i)<(List.length (EC.encL q26o a))))&&(isE [(K1.int Go.IntKind.i64),K1.str,(K1.int Go.IntKind.i64)] 0 (List.getD (EC.encL q26o a) (Int.toNat i) []))) <|
 (gdE (decide (0≤i)) <|
 (gdE ((decide ((Int.toNat i)<(List.length (EC.encL q26o b))))&&(isE [(K1.int Go.IntKind.i64),K1.str,(K1.int Go.IntKind.i64)] 0 (List.getD (EC.encL q26o b) (Int.toNat i) []))) <|
 (brE (!(((q273 (List.getD (List.getD (EC.encL q26o a) (Int.toNat i) []) 0 C.ne))==(q273 (List.getD (List.getD (EC.encL q26o b) (Int.toNat i) []) 0 C.ne)))&&(((q27s (List.getD (List.getD (EC.encL q26o a) (Int.toNat i) []) 1 C.ne))==(q27s (List.getD (List.getD (EC.encL q26o b) (Int.toNat i) []) 1 C.ne)))&&(((q273 (List.getD (List.getD (EC.encL q26o a) (Int.toNat i) []) 2 C.ne))==(q273 (List.getD (List.getD (EC.encL q26o b) (Int.toNat i) []) 2 C.ne)))&&true))))
 (some (.inl (false,())))
 (gdE (EC.isL q26o (EC.encL q26o a)) <|
 (gdE (EC.isL q26o (EC.encL q26o b)) <|
 (q17n (EC.decL q26o (EC.encL q26o a)) (EC.decL q26o (EC.encL q26o b)) (IntKind.wrap .i64 (i+1))))))))))
 (gdE (EC.isL q26o (EC.encL q26o a)) <|
 (gdE (EC.isL q26o (EC.encL q26o b)) <|
 (some (.inr (((EC.decL q26o (EC.encL q26o a)),((EC.decL q26o (EC.encL q26o b)),(i,false))),()))))))
theorem q17p {a} {b} {i} {r} (h:q17u a b i=some r):q17n a b i=some r :=
 qm5 (es:=qzu) (hs:=qkj) [] (by kernel_rfl) trivial trivial (by kernel_rfl) h
def q17o:=q27d Tryz.prog lv X0 4 (q270 (cdF Tryz.f17) 4) q17t q17q (fun x=>q17n x.1.1 x.1.2.1 x.1.2.2) (fun _ _ h=>qm4 h)
def q17k:Cod (V × List B) Bool:=(cFstU (cPair (vC cBool) q27a))
def q17v (a:(List S45)) (b:(List S45)):Option Bool:=fS Tryz.prog lv X0 17 q17j q17k (a,b)
def q17w (a:(List S45)) (b:(List S45)):Option Bool :=
 (brE ((List.length (EC.encL q26o a):Int) != (List.length (EC.encL q26o b):Int))
 (some false)
 (gdE (EC.isL q26o (EC.encL q26o a)) <|
 (gdE (EC.isL q26o (EC.encL q26o b)) <|
 (Option.bind (q17n (EC.decL q26o (EC.encL q26o a)) (EC.decL q26o (EC.encL q26o b)) 0) fun r0 =>
 (Sum.elim (fun r1=>(some r1.1))
 (fun r1=>(some true)) r0)))))
theorem q17m {a} {b} {r} (h:q17w a b=some r):q17v a b=some r :=
 qf2 (es:=qzu) (hs:=qkj) [q17o] Tryz.func17 rfl (by kernel_rfl) rfl (by kernel_rfl) (by kernel_rfl) ⟨⟨_,rfl,rfl⟩,trivial⟩ trivial (by kernel_rfl) h
def q17l:=entS Tryz.prog lv X0 17 [] q17j q17k (fun x=>q17v x.1 x.2) (fun _ _ h=>qf1 h)
def q19s:=q17l::qzu
def q220:=(q27b (vC (cSl q26r)))
def q221:Cod (V × List B) Bool:=(cFstU (cPair (vC cBool) q27a))
def q22k (s:(List S50)):Option Bool:=fS Tryz.prog lv X0 29 q220 q221 s
def q222:=entS Tryz.prog lv X0 29 [] q220 q221 (fun x=>q22k x) (fun _ _ h=>qf1 h)
def q22t:=q222::q19s
def q22i:=sLS [0,3,4] (q279 (vC (cSl q26r)) (q279 (vC (cInt .i64)) (q27b (vC (cInt .i64))))) q27a [] [] (by decide) (fun _=>rfl)
def q22h:=sLS [0,3,4,19] (q279 (vC (cSl q26r)) (q279 (vC (cInt .i64)) (q279 (vC (cInt .i64)) (q27b (vC cBool))))) q27a [] [] (by decide) (fun _=>rfl)
def q22g:=sLS [2] (q27b (vC cBool)) q27a [] [] (by decide) (fun _=>rfl)
def q22f:=oOr 1 q22g (oAt 4 q22h) (fun x=>(by decide:(4:Nat)≠1))
def q22c (s:(List S50)) (i:Int) (k:Int):Option ((Bool × Unit) ⊕ (((List S50) × Int × Int × Bool) × Unit)):=lS Tryz.prog lv X0 29 55 (q270 (cdF Tryz.f29) 5) q22i q22f ((s,i,k),())
def q22j (s:(List S50)) (i:Int) (k:Int):Option ((Bool × Unit) ⊕ (((List S50) × Int × Int × Bool) × Unit)) :=
 (gdE (decide (0≤i)) <|
 (gdE ((decide ((Int.toNat i)<(List.length (EC.encL q26r s))))&&(isE [(K1.int Go.IntKind.i64),(K1.int Go.IntKind.i64),K1.sl,K1.str,(K1.int Go.IntKind.i64),K1.str,(K1.int Go.IntKind.i64),K1.sl,K1.sl,(K1.int Go.IntKind.i64),K1.str,K1.str,(K1.int Go.IntKind.i64)] 0 (List.getD (EC.encL q26r s) (Int.toNat i) []))) <|
 (brE (decide ((IntKind.wrap .i64 (k+1))<(((ByteArray.size (q27s (List.getD (List.getD (EC.encL q26r s) (Int.toNat i) []) 11 C.ne))):Nat):Int)))
 (gdE (decide (0≤i)) <|
 (gdE ((decide ((Int.toNat i)<(List.length (EC.encL q26r s))))&&(isE [(K1.int Go.IntKind.i64),(K1.int Go.IntKind.i64),K1.sl,K1.str,(K1.int Go.IntKind.i64),K1.str,(K1.int Go.IntKind.i64),K1.sl,K1.sl,(K1.int Go.IntKind.i64),K1.str,K1.str,(K1.int Go.IntKind.i64)] 0 (List.getD (EC.encL q26r s) (Int.toNat i) []))) <|
 (gdE ((decide (0≤k))&&(decide ((Int.toNat k)<(ByteArray.size (q27s (List.getD (List.getD (EC.encL q26r s) (Int.toNat i) []) 11 C.ne)))))) <|
 (brE (((((UInt8.toNat (Array.getD (ByteArray.data (q27s (List.getD (List.getD (EC.encL q26r s) (Int.toNat i) []) 11 C.ne))) (Int.toNat k) (0:UInt8))):Nat):Int)==36)==true)
 (gdE (decide (0≤i)) <|
 (gdE ((decide ((Int.toNat i)<(List.length (EC.encL q26r s))))&&(isE [(K1.int Go.IntKind.i64),(K1.int Go.IntKind.i64),K1.sl,K1.str,(K1.int Go.IntKind.i64),K1.str,(K1.int Go.IntKind.i64),K1.sl,K1.sl,(K1.int Go.IntKind.i64),K1.str,K1.str,(K1.int Go.IntKind.i64)] 0 (List.getD (EC.encL q26r s) (Int.toNat i) []))) <|
 (gdE ((decide (0≤(IntKind.wrap .i64 (k+1))))&&(decide ((Int.toNat (IntKind.wrap .i64 (k+1)))<(ByteArray.size (q27s (List.getD (List.getD (EC.encL q26r s) (Int.toNat i) []) 11 C.ne)))))) <|
 (brE ((((UInt8.toNat (Array.getD (ByteArray.data (q27s (List.getD (List.getD (EC.encL q26r s) (Int.toNat i) []) 11 C.ne))) (Int.toNat (IntKind.wrap .i64 (k+1))) (0:UInt8))):Nat):Int)==123)
 (some (.inl (true,())))
 (gdE (EC.isL q26r (EC.encL q26r s)) <|
 (q22c (EC.decL q26r (EC.encL q26r s)) i (IntKind.wrap .i64 (k+1))))))))
 (gdE (EC.isL q26r (EC.encL q26r s)) <|
 (q22c (EC.decL q26r (EC.encL q26r s)) i (IntKind.wrap .i64 (k+1))))))))
 (gdE (EC.isL q26r (EC.encL q26r s)) <|
 (some (.inr (((EC.decL q26r (EC.encL q26r s)),(i,(k,false))),())))))))
theorem q22e {s} {i} {k} {r} (h:q22j s i k=some r):q22c s i k=some r :=
 qm5 (es:=q22t) (hs:=qkj) [] (by kernel_rfl) trivial trivial (by kernel_rfl) h
def q22d:=q27d Tryz.prog lv X0 5 (q270 (cdF Tryz.f29) 5) q22i q22f (fun x=>q22c x.1.1 x.1.2.1 x.1.2.2) (fun _ _ h=>qm4 h)
def q22a:=sLS [0,3] (q279 (vC (cSl q26r)) (q27b (vC (cInt .i64)))) q27a [] [] (by decide) (fun _=>rfl)
def q229:=sLS [0,3,8] (q279 (vC (cSl q26r)) (q279 (vC (cInt .i64)) (q27b (vC cBool)))) q27a [] [] (by decide) (fun _=>rfl)
def q228:=sLS [2] (q27b (vC cBool)) q27a [] [] (by decide) (fun _=>rfl)
def q227:=oOr 1 q228 (oAt 2 q229) (fun x=>(by decide:(2:Nat)≠1))
def q224 (s:(List S50)) (i:Int):Option ((Bool × Unit) ⊕ (((List S50) × Int × Bool) × Unit)):=lS Tryz.prog lv X0 29 55 (q270 (cdF Tryz.f29) 2) q22a q227 ((s,i),())
def q22b (s:(List S50)) (i:Int):Option ((Bool × Unit) ⊕ (((List S50) × Int × Bool) × Unit)) :=
 (brE (decide (i<(List.length (EC.encL q26r s):Int)))
 (gdE (EC.isL q26r (EC.encL q26r s)) <|
 (Option.bind (q22c (EC.decL q26r (EC.encL q26r s)) i 0) fun r0 =>
 (Sum.elim (fun r1=>(some (.inl (r1.1,()))))
 (fun r1=>(gdE (decide (0≤r1.1.2.1)) <|
 (gdE ((decide ((Int.toNat r1.1.2.1)<(List.length (EC.encL q26r r1.1.1))))&&(isE [(K1.int Go.IntKind.i64),(K1.int Go.IntKind.i64),K1.sl,K1.str,(K1.int Go.IntKind.i64),K1.str,(K1.int Go.IntKind.i64),K1.sl,K1.sl,(K1.int Go.IntKind.i64),K1.str,K1.str,(K1.int Go.IntKind.i64)] 0 (List.getD (EC.encL q26r r1.1.1) (Int.toNat r1.1.2.1) []))) <|
 (gdE (EC.isL q26r (slOf (List.getD (List.getD (EC.encL q26r r1.1.1) (Int.toNat r1.1.2.1) []) 7 C.ne))) <|
 (Option.bind (q22k (EC.decL q26r (slOf (List.getD (List.getD (EC.encL q26r r1.1.1) (Int.toNat r1.1.2.1) []) 7 C.ne)))) fun r2 =>
 (brE (r2==false)
 (gdE (decide (0≤r1.1.2.1)) <|
 (gdE ((decide ((Int.toNat r1.1.2.1)<(List.length (EC.encL q26r r1.1.1))))&&(isE [(K1.int Go.IntKind.i64),(K1.int Go.IntKind.i64),K1.sl,K1.str,(K1.int Go.IntKind.i64),K1.str,(K1.int Go.IntKind.i64),K1.sl,K1.sl,(K1.int Go.IntKind.i64),K1.str,K1.str,(K1.int Go.IntKind.i64)] 0 (List.getD (EC.encL q26r r1.1.1) (Int.toNat r1.1.2.1) []))) <|
 (gdE (EC.isL q26r (slOf (List.getD (List.getD (EC.encL q26r r1.1.1) (Int.toNat r1.1.2.1) []) 8 C.ne))) <|
 (Option.bind (q22k (EC.decL q26r (slOf (List.getD (List.getD (EC.encL q26r r1.1.1) (Int.toNat r1.1.2.1) []) 8 C.ne)))) fun r3 =>
 (brE r3
 (some (.inl (true,())))
 (gdE (EC.isL q26r (EC.encL q26r r1.1.1)) <|
 (q224 (EC.decL q26r (EC.encL q26r r1.1.1)) (IntKind.wrap .i64 (r1.1.2.1+1)))))))))
 (some (.inl (true,()))))))))) r0)))
 (gdE (EC.isL q26r (EC.encL q26r s)) <|
 (some (.inr (((EC.decL q26r (EC.encL q26r s)),(i,false)),())))))
theorem q226 {s} {i} {r} (h:q22b s i=some r):q224 s i=some r :=
 qm5 (es:=q22t) (hs:=qkj) [q22d] (by kernel_rfl) ⟨⟨_,rfl,rfl⟩,trivial⟩ trivial (by kernel_rfl) h
def q225:=q27d Tryz.prog lv X0 2 (q270 (cdF Tryz.f29) 2) q22a q227 (fun x=>q224 x.1.1 x.1.2) (fun _ _ h=>qm4 h)
def q22l (s:(List S50)):Option Bool :=
 (gdE (EC.isL q26r (EC.encL q26r s)) <|
 (Option.bind (q224 (EC.decL q26r (EC.encL q26r s)) 0) fun r0 =>
 (Sum.elim (fun r1=>(some r1.1))
 (fun r1=>(some false)) r0)))
theorem q223 {s} {r} (h:q22l s=some r):q22k s=some r :=
 qf2 (es:=q22t) (hs:=qkj) [q225] Tryz.func29 rfl (by kernel_rfl) rfl (by kernel_rfl) (by kernel_rfl) ⟨⟨_,rfl,rfl⟩,trivial⟩ trivial (by kernel_rfl) h
end
end Go.Proofs.YtokahibbkdbndaaGreatDoor
namespace Go.Proofs.YtokahibbkdbndaaGreatDoor
open Go.RowKit
set_option maxRecDepth 1000000 in
theorem q15v:callD Tryz.prog (fzL lv) X0.c (execD Tryz.prog lv X0 200) 16 []=some (.c (.bool true),[]):=by kernel_rfl
def evd_ca:Cod (List V) Unit:=q27a
def evd_cr:Cod (V × List B) Bool:=cFstU (cPair (vC cBool) q27a)
def evdS:Option Bool:=some true
theorem q15u (x:Unit) (r:Bool) (h:evdS=some r):Call Tryz.prog lv X0 16 (evd_ca.enc x)=some (evd_cr.enc r):=by
 cases r with
 |true=>exact qc q15v
 |false=>unfold evdS at h;cases h
noncomputable def evd_e:=entS Tryz.prog lv X0 16 [] evd_ca evd_cr (fun _=>evdS) q15u
noncomputable def tabk:=evd_e::q22t
set_option maxRecDepth 100000
noncomputable section
def q21u:=(q279 (vC (cSl q26r)) (q27b (vAgg (q279 (vC cStr) (q279 (vC (cSl q26k)) (q279 (vC cStr) (q279 (vC (cSl q26s)) (q27b (vC (cSl q26q))))))))))
def q21v:Cod (V × List B) (Int × Bool × (Int × Int)):=(cFstU (cPair (vTup (q279 (vC (cInt .i64)) (q279 (vC cBool) (q27b (vAgg (q279 (vC (cInt .i64)) (q27b (vC (cInt .i64))))))))) q27a))
def q21y (s:(List S50)) (m_Envelope_From:ByteArray) (m_Envelope_To:(List S118)) (m_Envelope_Id:ByteArray) (m_Message_Fields:(List S55)) (m_Message_Body:(List Int)):Option (Int × Bool × (Int × Int)):=fS Tryz.prog lv X0 28 q21u q21v (s,(m_Envelope_From,m_Envelope_To,m_Envelope_Id,m_Message_Fields,m_Message_Body))
def q21z (s:(List S50)) (m_Envelope_From:ByteArray) (m_Envelope_To:(List S118)) (m_Envelope_Id:ByteArray) (m_Message_Fields:(List S55)) (m_Message_Body:(List Int)):Option (Int × Bool × (Int × Int)) :=
 (gdE (EC.isL q26r (EC.encL q26r s)) <|
 (gdE (EC.isL q26k (EC.encL q26k m_Envelope_To)) <|
 (gdE (EC.isL q26s (EC.encL q26s m_Message_Fields)) <|
 (gdE (EC.isL q26q (EC.encL q26q m_Message_Body)) <|
 (Option.bind (qey (EC.decL q26r (EC.encL q26r s)) m_Envelope_From (EC.decL q26k (EC.encL q26k m_Envelope_To)) m_Envelope_Id (EC.decL q26s (EC.encL q26s m_Message_Fields)) (EC.decL q26q (EC.encL q26q m_Message_Body))) fun r0 =>
 (brE ((r0.1.2.2.1 != 0)==false)
 (brE (((r0.1.1:Nat):Int)==0)
 (some (0,(false,(r0.1.2.2.1,r0.1.2.2.2))))
 (gdE ((decide ((0:Int)≤0))&&(decide (0<((r0.1.1:Nat):Int)))) <|
 (gdE ((decide ((Int.toNat 0)<(List.length (EC.encL q26t r0.2.1))))&&((List.length (List.getD (EC.encL q26t r0.2.1) (Int.toNat 0) []))==3)) <|
 (gdE (isP [(K1.int Go.IntKind.i64)] 0 (List.getD (EC.encL q26t r0.2.1) (Int.toNat 0) [])) <|
 (gdE ((decide ((0:Int)≤0))&&(decide (0<((r0.1.1:Nat):Int)))) <|
 (gdE ((decide ((Int.toNat 0)<(List.length (EC.encL q26t r0.2.1))))&&((List.length (List.getD (EC.encL q26t r0.2.1) (Int.toNat 0) []))==3)) <|
 (gdE (isP [K1.bool] 1 (List.getD (EC.encL q26t r0.2.1) (Int.toNat 0) [])) <|
 (some ((q273 (List.getD (List.getD (EC.encL q26t r0.2.1) (Int.toNat 0) []) 0 C.ne)),((q26h (List.getD (List.getD (EC.encL q26t r0.2.1) (Int.toNat 0) []) 1 C.ne)),(r0.1.2.2.1,r0.1.2.2.2)))))))))))
 (some (0,(false,(r0.1.2.2.1,r0.1.2.2.2))))))))))
theorem q21x {s} {m_Envelope_From} {m_Envelope_To} {m_Envelope_Id} {m_Message_Fields} {m_Message_Body} {r} (h:q21z s m_Envelope_From m_Envelope_To m_Envelope_Id m_Message_Fields m_Message_Body=some r):q21y s m_Envelope_From m_Envelope_To m_Envelope_Id m_Message_Fields m_Message_Body=some r :=
 qf2 (es:=tabk) (hs:=qkj) [] Tryz.func28 rfl (by kernel_rfl) rfl (by kernel_rfl) (by kernel_rfl) trivial trivial (by kernel_rfl) h
def q21w:=entS Tryz.prog lv X0 28 [] q21u q21v (fun x=>q21y x.1 x.2.1 x.2.2.1 x.2.2.2.1 x.2.2.2.2.1 x.2.2.2.2.2) (fun _ _ h=>qf1 h)
def q22s:=q21w::tabk
def q21p:=(q279 (vAgg (q279 (vC (cInt .i64)) (q279 (vC (cSl q26p)) (q279 (vC cStr) (q279 (vC (cInt .i64)) (q279 (vC cStr) (q27b (vC (cInt .i64))))))))) (q279 (vC (cSl q26r)) (q279 (vC (cSl q26r)) (q27b (vAgg (q279 (vC cStr) (q279 (vC (cSl q26k)) (q279 (vC cStr) (q279 (vC (cSl q26s)) (q27b (vC (cSl q26q))))))))))))
def q21q:Cod (V × List B) Bool:=(cFstU (cPair (vC cBool) q27a))
def q21s (t_Kind:Int) (t_Tests:(List S48)) (t_Name:ByteArray) (t_Pattern:Int) (t_Text:ByteArray) (t_N:Int) (then_:(List S50)) (other:(List S50)) (m_Envelope_From:ByteArray) (m_Envelope_To:(List S118)) (m_Envelope_Id:ByteArray) (m_Message_Fields:(List S55)) (m_Message_Body:(List Int)):Option Bool:=fS Tryz.prog lv X0 9 q21p q21q ((t_Kind,t_Tests,t_Name,t_Pattern,t_Text,t_N),then_,other,(m_Envelope_From,m_Envelope_To,m_Envelope_Id,m_Message_Fields,m_Message_Body))
def q21t (t_Kind:Int) (t_Tests:(List S48)) (t_Name:ByteArray) (t_Pattern:Int) (t_Text:ByteArray) (t_N:Int) (then_:(List S50)) (other:(List S50)) (m_Envelope_From:ByteArray) (m_Envelope_To:(List S118)) (m_Envelope_Id:ByteArray) (m_Message_Fields:(List S55)) (m_Message_Body:(List Int)):Option Bool :=
 (gdE (EC.isL q26r [[(C.int Go.IntKind.i64 1),(C.int Go.IntKind.i64 t_Kind),(C.sl (EC.encL q26p t_Tests)),(C.str t_Name),(C.int Go.IntKind.i64 t_Pattern),(C.str t_Text),(C.int Go.IntKind.i64 t_N),(C.sl (EC.encL q26r then_)),(C.sl (EC.encL q26r other)),(C.int Go.IntKind.i64 0),(C.str ⟨#[]⟩),(C.str ⟨#[]⟩),(C.int Go.IntKind.i64 0)]]) <|
 (gdE (EC.isL q26k (EC.encL q26k m_Envelope_To)) <|
 (gdE (EC.isL q26s (EC.encL q26s m_Message_Fields)) <|
 (gdE (EC.isL q26q (EC.encL q26q m_Message_Body)) <|
 (Option.bind (q13y (EC.decL q26r [[(C.int Go.IntKind.i64 1),(C.int Go.IntKind.i64 t_Kind),(C.sl (EC.encL q26p t_Tests)),(C.str t_Name),(C.int Go.IntKind.i64 t_Pattern),(C.str t_Text),(C.int Go.IntKind.i64 t_N),(C.sl (EC.encL q26r then_)),(C.sl (EC.encL q26r other)),(C.int Go.IntKind.i64 0),(C.str ⟨#[]⟩),(C.str ⟨#[]⟩),(C.int Go.IntKind.i64 0)]]) m_Envelope_From (EC.decL q26k (EC.encL q26k m_Envelope_To)) m_Envelope_Id (EC.decL q26s (EC.encL q26s m_Message_Fields)) (EC.decL q26q (EC.encL q26q m_Message_Body))) fun r0 =>
 (gdE (EC.isL q26r [[(C.int Go.IntKind.i64 1),(C.int Go.IntKind.i64 t_Kind),(C.sl (EC.encL q26p t_Tests)),(C.str t_Name),(C.int Go.IntKind.i64 t_Pattern),(C.str t_Text),(C.int Go.IntKind.i64 t_N),(C.sl (EC.encL q26r then_)),(C.sl (EC.encL q26r other)),(C.int Go.IntKind.i64 0),(C.str ⟨#[]⟩),(C.str ⟨#[]⟩),(C.int Go.IntKind.i64 0)]]) <|
 (gdE (EC.isL q26k (EC.encL q26k m_Envelope_To)) <|
 (gdE (EC.isL q26s (EC.encL q26s m_Message_Fields)) <|
 (gdE (EC.isL q26q (EC.encL q26q m_Message_Body)) <|
 (Option.bind (q21y (EC.decL q26r [[(C.int Go.IntKind.i64 1),(C.int Go.IntKind.i64 t_Kind),(C.sl (EC.encL q26p t_Tests)),(C.str t_Name),(C.int Go.IntKind.i64 t_Pattern),(C.str t_Text),(C.int Go.IntKind.i64 t_N),(C.sl (EC.encL q26r then_)),(C.sl (EC.encL q26r other)),(C.int Go.IntKind.i64 0),(C.str ⟨#[]⟩),(C.str ⟨#[]⟩),(C.int Go.IntKind.i64 0)]]) m_Envelope_From (EC.decL q26k (EC.encL q26k m_Envelope_To)) m_Envelope_Id (EC.decL q26s (EC.encL q26s m_Message_Fields)) (EC.decL q26q (EC.encL q26q m_Message_Body))) fun r1 =>
 (brE ((r0.1.2.1 != 0)==false)
 (brE ((r1.2.2.1 != 0)==false)
 (gdE (EC.isL q26r (EC.encL q26r then_)) <|
 (Option.bind (q22k (EC.decL q26r (EC.encL q26r then_))) fun r2 =>
 (brE (r2==false)
 (gdE (EC.isL q26r (EC.encL q26r other)) <|
 (Option.bind (q22k (EC.decL q26r (EC.encL q26r other))) fun r3 =>
 (brE r3
 (some true)
 (brE r1.2.1
 (gdE (EC.isL q26r (EC.encL q26r then_)) <|
 (gdE (EC.isL q26k (EC.encL q26k m_Envelope_To)) <|
 (gdE (EC.isL q26s (EC.encL q26s m_Message_Fields)) <|
 (gdE (EC.isL q26q (EC.encL q26q m_Message_Body)) <|
 (Option.bind (q13y (EC.decL q26r (EC.encL q26r then_)) m_Envelope_From (EC.decL q26k (EC.encL q26k m_Envelope_To)) m_Envelope_Id (EC.decL q26s (EC.encL q26s m_Message_Fields)) (EC.decL q26q (EC.encL q26q m_Message_Body))) fun r4 =>
 (brE ((r4.1.2.1==0)==true)
 (gdE (EC.isL q26o (EC.encL q26o r0.2)) <|
 (gdE (EC.isL q26o (EC.encL q26o r4.2)) <|
 (Option.bind (q17v (EC.decL q26o (EC.encL q26o r0.2)) (EC.decL q26o (EC.encL q26o r4.2))) fun r5 =>
 (brE (r5==true)
 (some true)
 (some false)))))
 (some false)))))))
 (gdE (EC.isL q26r (EC.encL q26r other)) <|
 (gdE (EC.isL q26k (EC.encL q26k m_Envelope_To)) <|
 (gdE (EC.isL q26s (EC.encL q26s m_Message_Fields)) <|
 (gdE (EC.isL q26q (EC.encL q26q m_Message_Body)) <|
 (Option.bind (q13y (EC.decL q26r (EC.encL q26r other)) m_Envelope_From (EC.decL q26k (EC.encL q26k m_Envelope_To)) m_Envelope_Id (EC.decL q26s (EC.encL q26s m_Message_Fields)) (EC.decL q26q (EC.encL q26q m_Message_Body))) fun r4 =>
 (brE ((r4.1.2.1==0)==true)
 (gdE (EC.isL q26o (EC.encL q26o r0.2)) <|
 (gdE (EC.isL q26o (EC.encL q26o r4.2)) <|
 (Option.bind (q17v (EC.decL q26o (EC.encL q26o r0.2)) (EC.decL q26o (EC.encL q26o r4.2))) fun r5 =>
 (brE (r5==true)
 (some true)
 (some false)))))
 (some false)))))))))))
 (some true))))
 (some true))
 (some true))))))))))))
theorem q21r {t_Kind} {t_Tests} {t_Name} {t_Pattern} {t_Text} {t_N} {then_} {other} {m_Envelope_From} {m_Envelope_To} {m_Envelope_Id} {m_Message_Fields} {m_Message_Body} {r} (h:q21t t_Kind t_Tests t_Name t_Pattern t_Text t_N then_ other m_Envelope_From m_Envelope_To m_Envelope_Id m_Message_Fields m_Message_Body=some r):q21s t_Kind t_Tests t_Name t_Pattern t_Text t_N then_ other m_Envelope_From m_Envelope_To m_Envelope_Id m_Message_Fields m_Message_Body=some r :=
 qf2 (es:=q22s) (hs:=qkj) [] Tryz.func9 rfl (by kernel_rfl) rfl (by kernel_rfl) (by kernel_rfl) trivial trivial (by kernel_rfl) h
end
theorem q12u (a:ByteArray):(a==a)=true:=by
 cases a with
 |mk d=>show (d==d)=true;exact beq_self_eq_true d
theorem q19g (l:List S45) (hl:l.length≤10000):∀ (m k:Nat),k+m=l.length→q17n l l k=some (.inr ((l,(l,((l.length:Int),false))),())):=by
 intro m
 induction m with
 |zero =>
  intro k hk
  have hk:k=l.length:=by omega
  subst hk
  refine q17p ?_
  simp only [q17u,q26i,q26z,EC.decL_encL,EC.isL_encL,EC.encL_length,q275,q3u,q12s,q12t]
  simp
 |succ m ih =>
  intro k hk
  have hlt:k<l.length:=by omega
  have e1:decide ((k:Int)<(l.length:Int))=true:=by simp;omega
  have e0:decide ((0:Int)≤(k:Int))=true:=by simp
  have e2:IntKind.i64.wrap ((k:Int)+1)=((k+1:Nat):Int):=q27y hlt (by omega)
  have hd2:decide (k<l.length)=true:=by simp [hlt]
  refine q17p ?_
  simp only [q17u,q26i,q26z,EC.decL_encL,EC.isL_encL,EC.encL_length,q275,q3u,q12s,q12t,e1,e0,if_true,Int.toNat_natCast,hd2,q12u,Bool.and_self,beq_self_eq_true,Bool.not_true,Bool.false_eq_true,if_false,e2]
  exact ih (k+1) (by omega)
theorem q19h (l:List S45) (hl:l.length≤10000):q17v l l=some true:=by
 have h:=q19g l hl l.length 0 (by omega)
 rw [Int.natCast_zero] at h
 refine q17m ?_
 simp only [q17w,q26i,q26z,EC.decL_encL,EC.isL_encL,EC.encL_length,if_true,bne_self_eq_false,Bool.false_eq_true,if_false,h,Option.bind_some]
 rfl
section
variable (f:ByteArray) (rc:List S118) (fs:List S55) (sz:Int)
end
theorem runA_len' {s:List S50} {f:ByteArray} {rc:List S118} {e:ByteArray} {fs:List S55} {bd:List Int}:(runA s f rc e fs bd).length≤101:=by
 unfold runA
 split
 ·simp
 ·rename_i h
  have h0:=runF_0 (s:=s) (f:=f) (rc:=rc) (e:=e) (fs:=fs) (bd:=bd) (by simpa using h)
  obtain ⟨_,h2,_⟩:=q113 f rc fs bd h0.1
  have:(finA (theRun s f rc fs bd).2.2.1).length≤(theRun s f rc fs bd).2.2.1.length+1:=by
   unfold finA
   split <;> simp
  have:=(val_ok h0.1).2
  simp only [List.length_nil,Nat.zero_add] at h2
  omega
section
variable (f:ByteArray) (rc:List S118) (i:ByteArray) (fs:List S55) (bd:List Int) (sz:Int) (na:Nat) (ac:List S45) (ns:Nat) (st:List S62)
theorem q12f (ps:List ByteArray) (hp:ps.length≤1000) (hv:∀ v∈ps,v.size≤2000000):∀ (m k:Nat) (mm:MM),k+m=ps.length→mm.length+m≤100000000→qdg ps.length ps.length k f rc i fs bd sz na ps mm ns ac st=some (((),(ps.length,((ps.length:Int),((ps.length:Int),false)))),((f,(rc,(i,(fs,(bd,(sz,((),(na,())))))))),(ps,(putP (ps.drop k) k mm,(ns,(ac,st)))))):=by
 intro m
 induction m with
 |zero =>
  intro k mm hk hs
  have hk:k=ps.length:=by omega
  subst hk
  refine qdi ?_
  rw [List.drop_length,putP]
  simp only [qdm,q26i,q26z,EC.decL_encL,EC.isL_encL,EC.encL_length,q26c]
  simp
 |succ m ih =>
  intro k mm hk hs
  have hlt:k<ps.length:=by omega
  have e1:decide ((k:Int)<(ps.length:Int))=true:=by simp;omega
  have e0:decide ((0:Int)≤(k:Int))=true:=by simp
  have e2:IntKind.i64.wrap ((k:Int)+1)=((k+1:Nat):Int):=q27y hlt (by omega)
  have e3:decide (k<ps.length)=true:=by simp [hlt]
  have hi:itoaP ((k+1:Nat):Int)=some (itB ((k+1:Nat):Int)):=by unfold itoaP;rw [if_pos (by omega)];rfl
  have g1:decide ((itB ((k+1:Nat):Int)).size≤maxLen)=true:=decide_eq_true (by have:=qln (k+1);unfold maxLen;omega)
  have g2:decide (ps[k].size≤maxLen)=true:=decide_eq_true (by have:=hv _ (List.getElem_mem hlt);unfold maxLen;omega)
  have g3:decide (mm.length<maxLen)=true:=decide_eq_true (by unfold maxLen;omega)
  refine qdi ?_
  rw [q97 hlt,putP]
  simp only [qdm,q26i,q26z,EC.decL_encL,EC.isL_encL,EC.encL_length,q26c,e1,e0,e3,if_true,Int.toNat_natCast,Bool.and_self,q27z ps k hlt,qll ps k hlt,qik hlt,beq_self_eq_true,e2,hi,Option.bind_some,g1,g2,g3]
  exact ih (k+1) _ (by omega) (by have:=qsk mm (itB ((k+1:Nat):Int)) ps[k];omega)
theorem q12c (t:S48) (ht:t.Text.size≤2000000) (l:List ByteArray) (hl:l.length≤2000000) (hv:∀ v∈l,v.size≤2000000) (n:Nat) (hn:n≤1000000) (mm:MM) (hm:Inv n mm):∀ (m k:Nat),k+m=l.length→∃ x,qd8 l.length l.length k f rc i fs bd sz na t.Kind t.Tests t.Name t.Pattern t.Text t.N l mm ns ac st=some x ∧
  Sum.elim (fun r=>(r.1,(r.1,r.2))) (fun r=>(false,(false,(r.2.1,(r.2.2.2.2.1,r.2.2.2.2.2))))) x=((matL t.Pattern t.Text mm (l.drop k)).1,((matL t.Pattern t.Text mm (l.drop k)).1,((f,(rc,(i,(fs,(bd,(sz,((),(na,())))))))),((matL t.Pattern t.Text mm (l.drop k)).2,(ns,(ac,st)))))):=by
 intro m
 induction m with
 |zero =>
  intro k hk
  have hk:k=l.length:=by omega
  subst hk
  refine ⟨.inr (((),((),(l.length,((l.length:Int),((l.length:Int),false))))),((f,(rc,(i,(fs,(bd,(sz,((),(na,())))))))),((t.Kind,(t.Tests,(t.Name,(t.Pattern,(t.Text,t.N))))),(l,(mm,(ns,(ac,st))))))),qda (by
   simp only [qdf,q26i,q26z,EC.decL_encL,EC.isL_encL,EC.encL_length,q26c]
   simp),?_⟩
  rw [List.drop_length];rfl
 |succ m ih =>
  intro k hk
  have hlt:k<l.length:=by omega
  have e1:decide ((k:Int)<(l.length:Int))=true:=by simp;omega
  have e0:decide ((0:Int)≤(k:Int))=true:=by simp
  have e2:IntKind.i64.wrap ((k:Int)+1)=((k+1:Nat):Int):=q27y hlt (by omega)
  have e3:decide (k<l.length)=true:=by simp [hlt]
  have hs:=hv _ (List.getElem_mem hlt)
  have hM:=qnj t.Pattern t.Text l[k] (by omega) (by omega)
  obtain ⟨p1,p2,p3⟩:=qni t.Pattern t.Text l[k]
  obtain ⟨x,h1,h2⟩:=ih (k+1) (by omega)
  rw [q97 hlt,matL]
  generalize matchR t.Pattern t.Text l[k]=r at hM p1 p2 p3
  cases hf:(r.1.2.2.1 != 0) with
  |true =>
   have hf':¬ (r.1.2.2.1=0∧r.1.1=true):=fun h=>by rw [h.1] at hf;cases hf
   rw [if_neg hf']
   refine ⟨x,qda ?_,h2⟩
   simp only [qdf,q26i,q26z,EC.decL_encL,EC.isL_encL,EC.encL_length,q26c,e1,e0,e3,if_true,Int.toNat_natCast,Bool.and_self,q27z l k hlt,qll l k hlt,qik hlt,beq_self_eq_true,e2,hM,Option.bind_some,qf3,hf,show (true==false)=false from rfl,Bool.false_eq_true,if_false]
   exact h1
  |false =>
   have hf0:r.1.2.2.1=0:=by simpa using hf
   cases hb:r.1.1 with
   |false =>
    rw [if_neg (by simp)]
    refine ⟨x,qda ?_,h2⟩
    simp only [qdf,q26i,q26z,EC.decL_encL,EC.isL_encL,EC.encL_length,q26c,e1,e0,e3,if_true,Int.toNat_natCast,Bool.and_self,q27z l k hlt,qll l k hlt,qik hlt,beq_self_eq_true,e2,hM,Option.bind_some,qf3,hf,hb,Bool.not_false]
    exact h1
   |true =>
    rw [if_pos ⟨hf0,rfl⟩]
    cases h3:(t.Pattern==3) with
    |false =>
     have h3':¬ t.Pattern=3:=by simpa using h3
     refine ⟨.inl (true,((f,(rc,(i,(fs,(bd,(sz,((),(na,())))))))),(mm,(ns,(ac,st))))),qda ?_,by rw [if_neg h3'];rfl⟩
     simp only [qdf,q26i,q26z,EC.decL_encL,EC.isL_encL,EC.encL_length,q26c,e1,e0,e3,if_true,Int.toNat_natCast,Bool.and_self,q27z l k hlt,qll l k hlt,qik hlt,beq_self_eq_true,e2,hM,Option.bind_some,qf3,hf,hb,h3,Bool.not_true,Bool.false_eq_true,if_false]
    |true =>
     have h3':t.Pattern=3:=by simpa using h3
     have hd:delP mm=some (noDig mm):=by
      unfold delP
      rw [if_pos (List.all_eq_true.2 fun p hp=>decide_eq_true (hm.key p hp))]
      rfl
     have hln:=qp2 mm
     have hma:=hm.all
     have hpc:=q12f f rc i fs bd sz na ac ns st r.2 p2 p3 r.2.length 0 (noDig mm) (by omega) (by omega)
     rw [List.drop_zero] at hpc
     have hpc:qdg r.2.length r.2.length 0 f rc i fs bd sz na r.2 (noDig mm) ns ac st=_:=hpc
     refine ⟨.inl (true,((f,(rc,(i,(fs,(bd,(sz,((),(na,())))))))),(putP r.2 0 (noDig mm),(ns,(ac,st))))),qda ?_,by rw [if_pos h3'];rfl⟩
     simp only [qdf,q26i,q26z,EC.decL_encL,EC.isL_encL,EC.encL_length,q26c,e1,e0,e3,if_true,Int.toNat_natCast,Bool.and_self,q27z l k hlt,qll l k hlt,qik hlt,beq_self_eq_true,e2,hM,Option.bind_some,qf3,hf,hb,h3,Bool.not_true,Bool.false_eq_true,if_false,hd,p1,hpc]
theorem q12d (t:S48) (ht:t.Text.size≤2000000) (l:List ByteArray) (hl:l.length≤2000000) (hv:∀ v∈l,v.size≤2000000) (n:Nat) (hn:n≤1000000) (mm:MM) (hm:Inv n mm) :
  qd5 t.Kind t.Tests t.Name t.Pattern t.Text t.N l.length f rc i fs bd sz na l mm ns ac st=some ((matL t.Pattern t.Text mm l).1,((matL t.Pattern t.Text mm l).1,((f,(rc,(i,(fs,(bd,(sz,((),(na,())))))))),((matL t.Pattern t.Text mm l).2,(ns,(ac,st)))))):=by
 obtain ⟨x,h1,h2⟩:=q12c f rc i fs bd sz na ac ns st t ht l hl hv n hn mm hm l.length 0 (by omega)
 rw [List.drop_zero] at h2
 have h1:qd8 l.length l.length 0 f rc i fs bd sz na t.Kind t.Tests t.Name t.Pattern t.Text t.N l mm ns ac st=some x:=h1
 refine qd7 ?_
 simp only [qdq,q26z,EC.decL_encL,EC.isL_encL,if_true,h1,Option.bind_some]
 rcases x with x|x
 ·simp only [Sum.elim_inl] at h2 ⊢
  exact congrArg some h2
 ·simp only [Sum.elim_inr] at h2 ⊢
  exact congrArg some h2
theorem q12b (h:HdrOk fs) (n:ByteArray) (hn:n.size≤2000000) (mm:MM) :
  qcy n f rc i fs bd sz na mm ns ac st=some ((valsL fs n).length,((valsL fs n).length,(valsL fs n,((f,(rc,(i,(fs,(bd,(sz,((),(na,())))))))),(mm,(ns,(ac,st))))))):=by
 obtain ⟨r,e,h1,h2⟩:=get_s h n hn
 refine qd0 ?_
 simp only [qd4,q26z,EC.decL_encL,EC.isL_encL,if_true,e,Option.bind_some]
 rw [h2,h1]
end
end Go.Proofs.YtokahibbkdbndaaGreatDoor
