/- Functions of the program as plain functions: made by program from the machine. -/
import Derived.Test.YtokahibbkdbndaaGreatDoorZ25
namespace Go.Proofs.YtokahibbkdbndaaGreatDoor
open Go.RowKit
set_option maxRecDepth 100000
noncomputable section
def q1hw:=(q27b (vAgg (q279 (vC (cInt .i64)) (q279 (vC (cSl q26p)) (q279 (vC cStr) (q279 (vC (cInt .i64)) (q279 (vC cStr) (q27b (vC (cInt .i64))))))))))
def q1hx:Cod (V × List B) Bool:=(cFstU (cPair (vC cBool) q27a))
def q1i0 (t_Kind:Int) (t_Tests:(List S48)) (t_Name:ByteArray) (t_Pattern:Int) (t_Text:ByteArray) (t_N:Int):Option Bool:=fS Tryz.prog lv X0 122 q1hw q1hx (t_Kind,t_Tests,t_Name,t_Pattern,t_Text,t_N)
def q1i1 (t_Kind:Int) (t_Tests:(List S48)) (t_Name:ByteArray) (t_Pattern:Int) (t_Text:ByteArray) (t_N:Int):Option Bool :=
 (some (decide (t_Kind > 4)))
theorem q1hz {t_Kind} {t_Tests} {t_Name} {t_Pattern} {t_Text} {t_N} {r} (h:q1i1 t_Kind t_Tests t_Name t_Pattern t_Text t_N=some r):q1i0 t_Kind t_Tests t_Name t_Pattern t_Text t_N=some r :=
 qf2 (es:=q19p) (hs:=q161) [] Tryz.func122 rfl (by kernel_rfl) rfl (by kernel_rfl) (by kernel_rfl) trivial trivial (by kernel_rfl) h
def q1hy:=entS Tryz.prog lv X0 122 [] q1hw q1hx (fun x=>q1i0 x.1 x.2.1 x.2.2.1 x.2.2.2.1 x.2.2.2.2.1 x.2.2.2.2.2) (fun _ _ h=>qf1 h)
def q1jo:=q1hy::q19p
def q1hq:=(q279 (vAgg (q279 (vC (cInt .i64)) (q279 (vC (cSl q26p)) (q279 (vC cStr) (q279 (vC (cInt .i64)) (q279 (vC cStr) (q27b (vC (cInt .i64))))))))) (q27b (vAgg (q279 (vC (cInt .i64)) (q279 (vC (cSl q26p)) (q279 (vC cStr) (q279 (vC (cInt .i64)) (q279 (vC cStr) (q27b (vC (cInt .i64)))))))))))
def q1hr:Cod (V × List B) Bool:=(cFstU (cPair (vC cBool) q27a))
def q1hu (a_Kind:Int) (a_Tests:(List S48)) (a_Name:ByteArray) (a_Pattern:Int) (a_Text:ByteArray) (a_N:Int) (b_Kind:Int) (b_Tests:(List S48)) (b_Name:ByteArray) (b_Pattern:Int) (b_Text:ByteArray) (b_N:Int):Option Bool:=fS Tryz.prog lv X0 150 q1hq q1hr ((a_Kind,a_Tests,a_Name,a_Pattern,a_Text,a_N),(b_Kind,b_Tests,b_Name,b_Pattern,b_Text,b_N))
def q1hv (a_Kind:Int) (a_Tests:(List S48)) (a_Name:ByteArray) (a_Pattern:Int) (a_Text:ByteArray) (a_N:Int) (b_Kind:Int) (b_Tests:(List S48)) (b_Name:ByteArray) (b_Pattern:Int) (b_Text:ByteArray) (b_N:Int):Option Bool :=
 (brE ((a_Kind==b_Kind)==true)
 (brE (((ByteArray.toList a_Name)==(ByteArray.toList b_Name))==true)
 (brE ((a_Pattern==b_Pattern)==true)
 (brE (((ByteArray.toList a_Text)==(ByteArray.toList b_Text))==true)
 (some (a_N==b_N))
 (some false))
 (some false))
 (some false))
 (some false))
theorem q1ht {a_Kind} {a_Tests} {a_Name} {a_Pattern} {a_Text} {a_N} {b_Kind} {b_Tests} {b_Name} {b_Pattern} {b_Text} {b_N} {r} (h:q1hv a_Kind a_Tests a_Name a_Pattern a_Text a_N b_Kind b_Tests b_Name b_Pattern b_Text b_N=some r):q1hu a_Kind a_Tests a_Name a_Pattern a_Text a_N b_Kind b_Tests b_Name b_Pattern b_Text b_N=some r :=
 qf2 (es:=q1jo) (hs:=q161) [] Tryz.func150 rfl (by kernel_rfl) rfl (by kernel_rfl) (by kernel_rfl) trivial trivial (by kernel_rfl) h
def q1hs:=entS Tryz.prog lv X0 150 [] q1hq q1hr (fun x=>q1hu x.1.1 x.1.2.1 x.1.2.2.1 x.1.2.2.2.1 x.1.2.2.2.2.1 x.1.2.2.2.2.2 x.2.1 x.2.2.1 x.2.2.2.1 x.2.2.2.2.1 x.2.2.2.2.2.1 x.2.2.2.2.2.2) (fun _ _ h=>qf1 h)
def q1jn:=q1hs::q1jo
def q1e0:=(q279 (vAgg (q279 (vC (cInt .i64)) (q279 (vC (cSl q26p)) (q279 (vC cStr) (q279 (vC (cInt .i64)) (q279 (vC cStr) (q27b (vC (cInt .i64))))))))) (q27b (vEptr (q279 (cInt .i64) (q279 (cSl q26p) (q279 cStr (q279 (cInt .i64) (q279 cStr (q27b (cInt .i64))))))) 0)))
def q1e1:Cod (V × List B) Bool:=(cFstU (cPair (vC cBool) q27a))
def q1e5 (x_Kind:Int) (x_Tests:(List S48)) (x_Name:ByteArray) (x_Pattern:Int) (x_Text:ByteArray) (x_N:Int) (c1_0:Int) (c1_1:(List S48)) (c1_2:ByteArray) (c1_3:Int) (c1_4:ByteArray) (c1_5:Int):Option Bool:=fS Tryz.prog lv X0 149 q1e0 q1e1 ((x_Kind,x_Tests,x_Name,x_Pattern,x_Text,x_N),(c1_0,c1_1,c1_2,c1_3,c1_4,c1_5))
def q1e6 (x_Kind:Int) (x_Tests:(List S48)) (x_Name:ByteArray) (x_Pattern:Int) (x_Text:ByteArray) (x_N:Int) (c1_0:Int) (c1_1:(List S48)) (c1_2:ByteArray) (c1_3:Int) (c1_4:ByteArray) (c1_5:Int):Option Bool :=
 (gdE (EC.isL q26p (EC.encL q26p x_Tests)) <|
 (gdE (EC.isL q26p (EC.encL q26p c1_1)) <|
 (Option.bind (q1hu x_Kind (EC.decL q26p (EC.encL q26p x_Tests)) x_Name x_Pattern x_Text x_N c1_0 (EC.decL q26p (EC.encL q26p c1_1)) c1_2 c1_3 c1_4 c1_5) fun r0 =>
 (some r0))))
theorem q1e3 {x_Kind} {x_Tests} {x_Name} {x_Pattern} {x_Text} {x_N} {c1_0} {c1_1} {c1_2} {c1_3} {c1_4} {c1_5} {r} (h:q1e6 x_Kind x_Tests x_Name x_Pattern x_Text x_N c1_0 c1_1 c1_2 c1_3 c1_4 c1_5=some r):q1e5 x_Kind x_Tests x_Name x_Pattern x_Text x_N c1_0 c1_1 c1_2 c1_3 c1_4 c1_5=some r :=
 qf2 (es:=q1jn) (hs:=q161) [] Tryz.func149 rfl (by kernel_rfl) rfl (by kernel_rfl) (by kernel_rfl) trivial trivial (by kernel_rfl) h
def q1e2:=entS Tryz.prog lv X0 149 [] q1e0 q1e1 (fun x=>q1e5 x.1.1 x.1.2.1 x.1.2.2.1 x.1.2.2.2.1 x.1.2.2.2.2.1 x.1.2.2.2.2.2 x.2.1 x.2.2.1 x.2.2.2.1 x.2.2.2.2.1 x.2.2.2.2.2.1 x.2.2.2.2.2.2) (fun _ _ h=>qf1 h)
def q1jh:=q1e2::q1jn
def q1hk:=(q279 (vC (cSl q26p)) (q27b (vAgg (q279 (vC (cInt .i64)) (q279 (vC (cSl q26p)) (q279 (vC cStr) (q279 (vC (cInt .i64)) (q279 (vC cStr) (q27b (vC (cInt .i64)))))))))))
def q1ci:=sLS [0,1] (q279 (vC (cSl q26p)) (q27b (vFn 149 (q27b (vPtr 0 0))))) (q27b (q27g (bBox (q279 (vC (cInt .i64)) (q279 (vC (cSl q26p)) (q279 (vC cStr) (q279 (vC (cInt .i64)) (q279 (vC cStr) (q27b (vC (cInt .i64))))))))))) [false] [0] (by decide) (fun _=>rfl)
def q1ce:=sLS [0,1,7,8] (q279 (vC (cSl q26p)) (q279 (vFn 149 (q27b (vPtr 0 0))) (q279 (vC (cInt .i64)) (q27b (vC (cInt .i64)))))) (q27b (q27g (bBox (q279 (vC (cInt .i64)) (q279 (vC (cSl q26p)) (q279 (vC cStr) (q279 (vC (cInt .i64)) (q279 (vC cStr) (q27b (vC (cInt .i64))))))))))) [false] [0] (by decide) (fun _=>rfl)
def q1cd:=sLS [0,1,7,8,9] (q279 (vC (cSl q26p)) (q279 (vFn 149 (q27b (vPtr 0 0))) (q279 (vC (cInt .i64)) (q279 (vC (cInt .i64)) (q27b (vC cBool)))))) (q27b (q27g (bBox (q279 (vC (cInt .i64)) (q279 (vC (cSl q26p)) (q279 (vC cStr) (q279 (vC (cInt .i64)) (q279 (vC cStr) (q27b (vC (cInt .i64))))))))))) [false] [0] (by decide) (fun _=>rfl)
def q1cc:=sLS [4] (q27b (vC (cInt .i64))) (q27b (q27g (bBox (q279 (vC (cInt .i64)) (q279 (vC (cSl q26p)) (q279 (vC cStr) (q279 (vC (cInt .i64)) (q279 (vC cStr) (q27b (vC (cInt .i64))))))))))) [false] [0] (by decide) (fun _=>rfl)
def q1cb:=oOr 1 q1cc (oAt 2 q1cd) (fun x=>(by decide:(2:Nat)≠1))
def q1c8 (s:(List S48)) (t7:Int) (t8:Int) (b0:Int) (b0_1:(List S48)) (b0_2:ByteArray) (b0_3:Int) (b0_4:ByteArray) (b0_5:Int):Option ((Int × (Int × (List S48) × ByteArray × Int × ByteArray × Int)) ⊕ (((List S48) × Unit × Int × Int × Bool) × (Int × (List S48) × ByteArray × Int × ByteArray × Int))):=lS Tryz.prog lv X0 148 19 (q270 (cdF Tryz.f148) 2) q1ce q1cb ((s,(),t7,t8),(b0,b0_1,b0_2,b0_3,b0_4,b0_5))
def q1cf (s:(List S48)) (t7:Int) (t8:Int) (b0:Int) (b0_1:(List S48)) (b0_2:ByteArray) (b0_3:Int) (b0_4:ByteArray) (b0_5:Int):Option ((Int × (Int × (List S48) × ByteArray × Int × ByteArray × Int)) ⊕ (((List S48) × Unit × Int × Int × Bool) × (Int × (List S48) × ByteArray × Int × ByteArray × Int))) :=
 (brE (decide (t8<t7))
 (gdE (decide (0≤t8)) <|
 (gdE ((decide ((Int.toNat t8)<(List.length (EC.encL q26p s))))&&(isE [(K1.int Go.IntKind.i64),K1.sl,K1.str,(K1.int Go.IntKind.i64),K1.str,(K1.int Go.IntKind.i64)] 0 (List.getD (EC.encL q26p s) (Int.toNat t8) []))) <|
 (gdE (EC.isL q26p (slOf (List.getD (List.getD (EC.encL q26p s) (Int.toNat t8) []) 1 C.ne))) <|
 (gdE (EC.isL q26p (EC.encL q26p b0_1)) <|
 (Option.bind (q1e5 (q273 (List.getD (List.getD (EC.encL q26p s) (Int.toNat t8) []) 0 C.ne)) (EC.decL q26p (slOf (List.getD (List.getD (EC.encL q26p s) (Int.toNat t8) []) 1 C.ne))) (q27s (List.getD (List.getD (EC.encL q26p s) (Int.toNat t8) []) 2 C.ne)) (q273 (List.getD (List.getD (EC.encL q26p s) (Int.toNat t8) []) 3 C.ne)) (q27s (List.getD (List.getD (EC.encL q26p s) (Int.toNat t8) []) 4 C.ne)) (q273 (List.getD (List.getD (EC.encL q26p s) (Int.toNat t8) []) 5 C.ne)) b0 (EC.decL q26p (EC.encL q26p b0_1)) b0_2 b0_3 b0_4 b0_5) fun r0 =>
 (brE r0
 (gdE (EC.isL q26p (EC.encL q26p b0_1)) <|
 (some (.inl (t8,(b0,((EC.decL q26p (EC.encL q26p b0_1)),(b0_2,(b0_3,(b0_4,b0_5)))))))))
 (gdE (EC.isL q26p (EC.encL q26p s)) <|
 (gdE (EC.isL q26p (EC.encL q26p b0_1)) <|
 (q1c8 (EC.decL q26p (EC.encL q26p s)) t7 (IntKind.wrap .i64 (t8+1)) b0 (EC.decL q26p (EC.encL q26p b0_1)) b0_2 b0_3 b0_4 b0_5)))))))))
 (gdE (EC.isL q26p (EC.encL q26p s)) <|
 (gdE (EC.isL q26p (EC.encL q26p b0_1)) <|
 (some (.inr (((EC.decL q26p (EC.encL q26p s)),((),(t7,(t8,false)))),(b0,((EC.decL q26p (EC.encL q26p b0_1)),(b0_2,(b0_3,(b0_4,b0_5)))))))))))
theorem q1ca {s} {t7} {t8} {b0} {b0_1} {b0_2} {b0_3} {b0_4} {b0_5} {r} (h:q1cf s t7 t8 b0 b0_1 b0_2 b0_3 b0_4 b0_5=some r):q1c8 s t7 t8 b0 b0_1 b0_2 b0_3 b0_4 b0_5=some r :=
 qm5 (es:=q1jh) (hs:=q161) [] (by kernel_rfl) trivial trivial (by kernel_rfl) h
def q1c9:=q27d Tryz.prog lv X0 2 (q270 (cdF Tryz.f148) 2) q1ce q1cb (fun x=>q1c8 x.1.1 x.1.2.2.1 x.1.2.2.2 x.2.1 x.2.2.1 x.2.2.2.1 x.2.2.2.2.1 x.2.2.2.2.2.1 x.2.2.2.2.2.2) (fun _ _ h=>qm4 h)
def q1ch:SC (Int × (Int × (List S48) × ByteArray × Int × ByteArray × Int)):=sLS [0] (q27b (vC (cInt .i64))) (q27b (q27g (bBox (q279 (vC (cInt .i64)) (q279 (vC (cSl q26p)) (q279 (vC cStr) (q279 (vC (cInt .i64)) (q279 (vC cStr) (q27b (vC (cInt .i64))))))))))) [false] [0] (by decide) (fun _=>rfl)
def q1cg:HC (Int × (Int × (Int × (List S48) × ByteArray × Int × ByteArray × Int))):=hPair (vC (cInt .i64)) q1ch
def q1c5 (s:(List S48)) (b0:Int) (b0_1:(List S48)) (b0_2:ByteArray) (b0_3:Int) (b0_4:ByteArray) (b0_5:Int):Option (Int × (Int × (Int × (List S48) × ByteArray × Int × ByteArray × Int))):=hS Tryz.prog lv X0 148 q1ci q1cg ((s,()),(b0,b0_1,b0_2,b0_3,b0_4,b0_5))
def q1cj (s:(List S48)) (b0:Int) (b0_1:(List S48)) (b0_2:ByteArray) (b0_3:Int) (b0_4:ByteArray) (b0_5:Int):Option (Int × (Int × (Int × (List S48) × ByteArray × Int × ByteArray × Int))) :=
 (gdE (EC.isL q26p (EC.encL q26p s)) <|
 (gdE (EC.isL q26p (EC.encL q26p b0_1)) <|
 (Option.bind (q1c8 (EC.decL q26p (EC.encL q26p s)) (List.length (EC.encL q26p s):Int) 0 b0 (EC.decL q26p (EC.encL q26p b0_1)) b0_2 b0_3 b0_4 b0_5) fun r0 =>
 (Sum.elim (fun r1=>(gdE (EC.isL q26p (EC.encL q26p r1.2.2.1)) <|
 (some (r1.1,(r1.1,(r1.2.1,((EC.decL q26p (EC.encL q26p r1.2.2.1)),(r1.2.2.2.1,(r1.2.2.2.2.1,(r1.2.2.2.2.2.1,r1.2.2.2.2.2.2))))))))))
 (fun r1=>(gdE (EC.isL q26p (EC.encL q26p r1.2.2.1)) <|
 (some ((-1:Int),((-1:Int),(r1.2.1,((EC.decL q26p (EC.encL q26p r1.2.2.1)),(r1.2.2.2.1,(r1.2.2.2.2.1,(r1.2.2.2.2.2.1,r1.2.2.2.2.2.2)))))))))) r0))))
theorem q1c7 {s} {b0} {b0_1} {b0_2} {b0_3} {b0_4} {b0_5} {r} (h:q1cj s b0 b0_1 b0_2 b0_3 b0_4 b0_5=some r):q1c5 s b0 b0_1 b0_2 b0_3 b0_4 b0_5=some r :=
 qis (fn:=Tryz.f148) (es:=q1jh) (hs:=q161) [q1c9] (by kernel_rfl) rfl (by kernel_rfl) ⟨⟨_,rfl,rfl⟩,trivial⟩ trivial (by kernel_rfl) h
def q1c6:=hentS Tryz.prog lv X0 148 [0,1,4,1,6,149,1,3,0,0,1,6,1,1,1,4,1,3,1,1,1,3,1,1,0] q1ci q1cg (fun x=>q1c5 x.1.1 x.2.1 x.2.2.1 x.2.2.2.1 x.2.2.2.2.1 x.2.2.2.2.2.1 x.2.2.2.2.2.2) (fun _ _ h=>qir h)
def q1en:=q1c6::q161
def q1hl:Cod (V × List B) Int:=(cFstU (cPair (vC (cInt .i64)) q27a))
def q1ho (l:(List S48)) (t_Kind:Int) (t_Tests:(List S48)) (t_Name:ByteArray) (t_Pattern:Int) (t_Text:ByteArray) (t_N:Int):Option Int:=fS Tryz.prog lv X0 123 q1hk q1hl (l,(t_Kind,t_Tests,t_Name,t_Pattern,t_Text,t_N))
def q1hp (l:(List S48)) (t_Kind:Int) (t_Tests:(List S48)) (t_Name:ByteArray) (t_Pattern:Int) (t_Text:ByteArray) (t_N:Int):Option Int :=
 (gdE (EC.isL q26p (EC.encL q26p l)) <|
 (gdE (EC.isL q26p (EC.encL q26p t_Tests)) <|
 (Option.bind (q1c5 (EC.decL q26p (EC.encL q26p l)) t_Kind (EC.decL q26p (EC.encL q26p t_Tests)) t_Name t_Pattern t_Text t_N) fun r0 =>
 (some r0.1))))
theorem q1hn {l} {t_Kind} {t_Tests} {t_Name} {t_Pattern} {t_Text} {t_N} {r} (h:q1hp l t_Kind t_Tests t_Name t_Pattern t_Text t_N=some r):q1ho l t_Kind t_Tests t_Name t_Pattern t_Text t_N=some r :=
 qf2 (es:=q1jh) (hs:=q1en) [] Tryz.func123 rfl (by kernel_rfl) rfl (by kernel_rfl) (by kernel_rfl) trivial trivial (by kernel_rfl) h
def q1hm:=entS Tryz.prog lv X0 123 [] q1hk q1hl (fun x=>q1ho x.1 x.2.1 x.2.2.1 x.2.2.2.1 x.2.2.2.2.1 x.2.2.2.2.2.1 x.2.2.2.2.2.2) (fun _ _ h=>qf1 h)
def q1jm:=q1hm::q1jh
def q1g9:=(q27b (vAgg (q279 (vC (cInt .i64)) (q279 (vC cStr) (q27b (vC (cInt .i64)))))))
def q1ga:Cod (V × List B) Bool:=(cFstU (cPair (vC cBool) q27a))
def q1gd (a_Kind:Int) (a_Text:ByteArray) (a_N:Int):Option Bool:=fS Tryz.prog lv X0 53 q1g9 q1ga (a_Kind,a_Text,a_N)
def q1ge (a_Kind:Int) (a_Text:ByteArray) (a_N:Int):Option Bool :=
 (brE ((a_Kind==1)==false)
 (some (a_Kind==2))
 (some true))
theorem q1gc {a_Kind} {a_Text} {a_N} {r} (h:q1ge a_Kind a_Text a_N=some r):q1gd a_Kind a_Text a_N=some r :=
 qf2 (es:=q1jm) (hs:=q1en) [] Tryz.func53 rfl (by kernel_rfl) rfl (by kernel_rfl) (by kernel_rfl) trivial trivial (by kernel_rfl) h
def q1gb:=entS Tryz.prog lv X0 53 [] q1g9 q1ga (fun x=>q1gd x.1 x.2.1 x.2.2) (fun _ _ h=>qf1 h)
def q1jl:=q1gb::q1jm
def q1ez:Cod (List V) ((List S45) × Unit):=(q279 (vC (cSl q26o)) (q27b (vFn 53 q27a)))
def q1f9:=sLS [0,1,7,8] (q279 (vC (cSl q26o)) (q279 (vFn 53 q27a) (q279 (vC (cInt .i64)) (q27b (vC (cInt .i64)))))) q27a [] [] (by decide) (fun _=>rfl)
def q1f8:=sLS [0,1,7,8,9] (q279 (vC (cSl q26o)) (q279 (vFn 53 q27a) (q279 (vC (cInt .i64)) (q279 (vC (cInt .i64)) (q27b (vC cBool)))))) q27a [] [] (by decide) (fun _=>rfl)
def q1f7:=sLS [4] (q27b (vC (cInt .i64))) q27a [] [] (by decide) (fun _=>rfl)
def q1f6:=oOr 1 q1f7 (oAt 2 q1f8) (fun x=>(by decide:(2:Nat)≠1))
def q1f3 (s:(List S45)) (t7:Int) (t8:Int):Option ((Int × Unit) ⊕ (((List S45) × Unit × Int × Int × Bool) × Unit)):=lS Tryz.prog lv X0 75 19 (q270 (cdF Tryz.f75) 2) q1f9 q1f6 ((s,(),t7,t8),())
def q1fa (s:(List S45)) (t7:Int) (t8:Int):Option ((Int × Unit) ⊕ (((List S45) × Unit × Int × Int × Bool) × Unit)) :=
 (brE (decide (t8<t7))
 (gdE (decide (0≤t8)) <|
 (gdE ((decide ((Int.toNat t8)<(List.length (EC.encL q26o s))))&&(isE [(K1.int Go.IntKind.i64),K1.str,(K1.int Go.IntKind.i64)] 0 (List.getD (EC.encL q26o s) (Int.toNat t8) []))) <|
 (Option.bind (q1gd (q273 (List.getD (List.getD (EC.encL q26o s) (Int.toNat t8) []) 0 C.ne)) (q27s (List.getD (List.getD (EC.encL q26o s) (Int.toNat t8) []) 1 C.ne)) (q273 (List.getD (List.getD (EC.encL q26o s) (Int.toNat t8) []) 2 C.ne))) fun r0 =>
 (brE r0
 (some (.inl (t8,())))
 (gdE (EC.isL q26o (EC.encL q26o s)) <|
 (q1f3 (EC.decL q26o (EC.encL q26o s)) t7 (IntKind.wrap .i64 (t8+1))))))))
 (gdE (EC.isL q26o (EC.encL q26o s)) <|
 (some (.inr (((EC.decL q26o (EC.encL q26o s)),((),(t7,(t8,false)))),())))))
theorem q1f5 {s} {t7} {t8} {r} (h:q1fa s t7 t8=some r):q1f3 s t7 t8=some r :=
 qm5 (es:=q1jl) (hs:=q1en) [] (by kernel_rfl) trivial trivial (by kernel_rfl) h
def q1f4:=q27d Tryz.prog lv X0 2 (q270 (cdF Tryz.f75) 2) q1f9 q1f6 (fun x=>q1f3 x.1.1 x.1.2.2.1 x.1.2.2.2) (fun _ _ h=>qm4 h)
def q1f0:Cod (V × List B) Int:=(cFstU (cPair (vC (cInt .i64)) q27a))
def q1fb (s:(List S45)):Option Int:=fS Tryz.prog lv X0 75 q1ez q1f0 (s,())
def q1fc (s:(List S45)):Option Int :=
 (gdE (EC.isL q26o (EC.encL q26o s)) <|
 (Option.bind (q1f3 (EC.decL q26o (EC.encL q26o s)) (List.length (EC.encL q26o s):Int) 0) fun r0 =>
 (Sum.elim (fun r1=>(some r1.1))
 (fun r1=>(some (-1:Int))) r0)))
theorem q1f2 {s} {r} (h:q1fc s=some r):q1fb s=some r :=
 qf2 (es:=q1jl) (hs:=q1en) [q1f4] Tryz.func75 rfl (by kernel_rfl) rfl (by kernel_rfl) (by kernel_rfl) ⟨⟨_,rfl,rfl⟩,trivial⟩ trivial (by kernel_rfl) h
def q1f1:=entS Tryz.prog lv X0 75 [53] q1ez q1f0 (fun x=>q1fb x.1) (fun _ _ h=>qf1 h)
def q1jj:=q1f1::q1jl
def q1ef:Cod (List V) ((List S45) × Unit):=(q279 (vC (cSl q26o)) (q27b (vFn 53 q27a)))
def q1eg:Cod (V × List B) Bool:=(cFstU (cPair (vC cBool) q27a))
def q1ek (s:(List S45)):Option Bool:=fS Tryz.prog lv X0 52 q1ef q1eg (s,())
def q1el (s:(List S45)):Option Bool :=
 (gdE (EC.isL q26o (EC.encL q26o s)) <|
 (Option.bind (q1fb (EC.decL q26o (EC.encL q26o s))) fun r0 =>
 (some (decide (r0 ≥ 0)))))
theorem q1ei {s} {r} (h:q1el s=some r):q1ek s=some r :=
 qf2 (es:=q1jj) (hs:=q1en) [] Tryz.func52 rfl (by kernel_rfl) rfl (by kernel_rfl) (by kernel_rfl) trivial trivial (by kernel_rfl) h
def q1eh:=entS Tryz.prog lv X0 52 [53] q1ef q1eg (fun x=>q1ek x.1) (fun _ _ h=>qf1 h)
def q1ji:=q1eh::q1jj
def q1ie:=sLS [0,1] (q279 (vRow 0) (q27b (vC (cSl q26r)))) (q27b (q27g (bRow q26p))) [false] [] (by decide) (fun _=>rfl)
def q1id:SC (Nat × (List S48)):=sLS [0] (q27b (vRow 0)) (q27b (q27g (bRow q26p))) [false] [] (by decide) (fun _=>rfl)
def q1ic:HC (Nat × (Nat × (List S48))):=hPair (vRow 0) q1id
def q1i2 (l:Nat) (s:(List S50)) (b0:(List S48)):Option (Nat × (Nat × (List S48))):=hS Tryz.prog lv X0 72 q1ie q1ic ((l,s),b0)
def q1i3:=hentS Tryz.prog lv X0 72 [0,2,0,1,1,4,2] q1ie q1ic (fun x=>q1i2 x.1.1 x.1.2 x.2) (fun _ _ h=>qir h)
def q1ev:=q1i3::q1en
def q1hi:=sLS [0,1] (q279 (vRow 0) (q27b (vAgg (q279 (vC (cInt .i64)) (q279 (vC (cSl q26p)) (q279 (vC cStr) (q279 (vC (cInt .i64)) (q279 (vC cStr) (q27b (vC (cInt .i64))))))))))) (q27b (q27g (bRow q26p))) [false] [] (by decide) (fun _=>rfl)
def q1hh:SC (Nat × (List S48)):=sLS [0] (q27b (vRow 0)) (q27b (q27g (bRow q26p))) [false] [] (by decide) (fun _=>rfl)
def q1hg:HC (Nat × (Nat × (List S48))):=hPair (vRow 0) q1hh
def q1h6 (l:Nat) (t:Int) (t_1:(List S48)) (t_2:ByteArray) (t_3:Int) (t_4:ByteArray) (t_5:Int) (b0:(List S48)):Option (Nat × (Nat × (List S48))):=hS Tryz.prog lv X0 98 q1hi q1hg ((l,(t,t_1,t_2,t_3,t_4,t_5)),b0)
def q1h7:=hentS Tryz.prog lv X0 98 [0,2,0,1,7,6,1,1,1,4,1,3,1,1,1,3,1,1,2] q1hi q1hg (fun x=>q1h6 x.1.1 x.1.2.1 x.1.2.2.1 x.1.2.2.2.1 x.1.2.2.2.2.1 x.1.2.2.2.2.2.1 x.1.2.2.2.2.2.2 x.2) (fun _ _ h=>qir h)
def q1eu:=q1h7::q1ev
def q1he:=sLS [0,20,21,22] (q279 (vRow 0) (q279 (vC (cSl q26p)) (q279 (vC (cInt .i64)) (q27b (vC (cInt .i64)))))) (q27b (q27g (bRow q26p))) [false] [] (by decide) (fun _=>rfl)
def q1hd:=sLS [0,20,21,22,23] (q279 (vRow 0) (q279 (vC (cSl q26p)) (q279 (vC (cInt .i64)) (q279 (vC (cInt .i64)) (q27b (vC cBool)))))) (q27b (q27g (bRow q26p))) [false] [] (by decide) (fun _=>rfl)
def q1hc:=oAt 2 q1hd
def q1h9 (l:Nat) (t20:(List S48)) (t21:Int) (t22:Int) (b0:(List S48)):Option ((Nat × (List S48) × Int × Int × Bool) × (List S48)):=lS Tryz.prog lv X0 98 31 (q270 (cdF Tryz.f98) 4) q1he q1hc ((l,t20,t21,t22),b0)
def q1hf (l:Nat) (t20:(List S48)) (t21:Int) (t22:Int) (b0:(List S48)):Option ((Nat × (List S48) × Int × Int × Bool) × (List S48)) :=
 (brE (decide (t22<t21))
 (gdE (decide (0≤t22)) <|
 (gdE ((decide ((Int.toNat t22)<(List.length (EC.encL q26p t20))))&&(isE [(K1.int Go.IntKind.i64),K1.sl,K1.str,(K1.int Go.IntKind.i64),K1.str,(K1.int Go.IntKind.i64)] 0 (List.getD (EC.encL q26p t20) (Int.toNat t22) []))) <|
 (gdE (EC.isL q26p (slOf (List.getD (List.getD (EC.encL q26p t20) (Int.toNat t22) []) 1 C.ne))) <|
 (gdE (EC.isL q26p (EC.encL q26p b0)) <|
 (Option.bind (q1h6 l (q273 (List.getD (List.getD (EC.encL q26p t20) (Int.toNat t22) []) 0 C.ne)) (EC.decL q26p (slOf (List.getD (List.getD (EC.encL q26p t20) (Int.toNat t22) []) 1 C.ne))) (q27s (List.getD (List.getD (EC.encL q26p t20) (Int.toNat t22) []) 2 C.ne)) (q273 (List.getD (List.getD (EC.encL q26p t20) (Int.toNat t22) []) 3 C.ne)) (q27s (List.getD (List.getD (EC.encL q26p t20) (Int.toNat t22) []) 4 C.ne)) (q273 (List.getD (List.getD (EC.encL q26p t20) (Int.toNat t22) []) 5 C.ne)) (EC.decL q26p (EC.encL q26p b0))) fun r0 =>
 (gdE (EC.isL q26p (EC.encL q26p t20)) <|
 (gdE (EC.isL q26p (EC.encL q26p r0.2.2)) <|
 (q1h9 r0.1 (EC.decL q26p (EC.encL q26p t20)) t21 (IntKind.wrap .i64 (t22+1)) (EC.decL q26p (EC.encL q26p r0.2.2))))))))))
 (gdE (EC.isL q26p (EC.encL q26p t20)) <|
 (gdE (EC.isL q26p (EC.encL q26p b0)) <|
 (some ((l,((EC.decL q26p (EC.encL q26p t20)),(t21,(t22,false)))),(EC.decL q26p (EC.encL q26p b0)))))))
theorem q1hb {l} {t20} {t21} {t22} {b0} {r} (h:q1hf l t20 t21 t22 b0=some r):q1h9 l t20 t21 t22 b0=some r :=
 qm5 (es:=q1ji) (hs:=q1eu) [] (by kernel_rfl) trivial trivial (by kernel_rfl) h
def q1ha:=q27d Tryz.prog lv X0 4 (q270 (cdF Tryz.f98) 4) q1he q1hc (fun x=>q1h9 x.1.1 x.1.2.1 x.1.2.2.1 x.1.2.2.2 x.2) (fun _ _ h=>qm4 h)
def q1hj (l:Nat) (t:Int) (t_1:(List S48)) (t_2:ByteArray) (t_3:Int) (t_4:ByteArray) (t_5:Int) (b0:(List S48)):Option (Nat × (Nat × (List S48))) :=
 (gdE (EC.isL q26p (EC.encL q26p t_1)) <|
 (Option.bind (q1i0 t (EC.decL q26p (EC.encL q26p t_1)) t_2 t_3 t_4 t_5) fun r0 =>
 (brE (r0==true)
 (gdE (EC.isL q26p (EC.encL q26p b0)) <|
 (gdE (EC.isL q26p (EC.encL q26p t_1)) <|
 (Option.bind (q1ho (EC.decL q26p (EC.encL q26p b0)) t (EC.decL q26p (EC.encL q26p t_1)) t_2 t_3 t_4 t_5) fun r1 =>
 (brE (decide (r1<0))
 (gdE ((((List.all [[(C.int Go.IntKind.i64 t),(C.sl (EC.encL q26p t_1)),(C.str t_2),(C.int Go.IntKind.i64 t_3),(C.str t_4),(C.int Go.IntKind.i64 t_5)]] (fun (el:(List C))=>((List.length el)==6)))&&(List.all (EC.encL q26p b0) (fun (el:(List C))=>((List.length el)==6))))&&(decide (((((l+(List.length [[(C.int Go.IntKind.i64 t),(C.sl (EC.encL q26p t_1)),(C.str t_2),(C.int Go.IntKind.i64 t_3),(C.str t_4),(C.int Go.IntKind.i64 t_5)]]))+((l+(List.length [[(C.int Go.IntKind.i64 t),(C.sl (EC.encL q26p t_1)),(C.str t_2),(C.int Go.IntKind.i64 t_3),(C.str t_4),(C.int Go.IntKind.i64 t_5)]])) / 4))+192)*80)≤281474976710656)))&&(decide ((l+(List.length [[(C.int Go.IntKind.i64 t),(C.sl (EC.encL q26p t_1)),(C.str t_2),(C.int Go.IntKind.i64 t_3),(C.str t_4),(C.int Go.IntKind.i64 t_5)]]))≤9223372036854775807))) <|
 (gdE (EC.isL q26p (EC.encL q26p t_1)) <|
 (gdE (EC.isL q26p ((EC.encL q26p b0)++[[(C.int Go.IntKind.i64 t),(C.sl (EC.encL q26p t_1)),(C.str t_2),(C.int Go.IntKind.i64 t_3),(C.str t_4),(C.int Go.IntKind.i64 t_5)]])) <|
 (Option.bind (q1h9 (l+(List.length [[(C.int Go.IntKind.i64 t),(C.sl (EC.encL q26p t_1)),(C.str t_2),(C.int Go.IntKind.i64 t_3),(C.str t_4),(C.int Go.IntKind.i64 t_5)]])) (EC.decL q26p (EC.encL q26p t_1)) (List.length (EC.encL q26p t_1):Int) 0 (EC.decL q26p ((EC.encL q26p b0)++[[(C.int Go.IntKind.i64 t),(C.sl (EC.encL q26p t_1)),(C.str t_2),(C.int Go.IntKind.i64 t_3),(C.str t_4),(C.int Go.IntKind.i64 t_5)]]))) fun r2 =>
 (gdE (EC.isL q26p (EC.encL q26p r2.2)) <|
 (some (r2.1.1,(r2.1.1,(EC.decL q26p (EC.encL q26p r2.2))))))))))
 (gdE (EC.isL q26p (EC.encL q26p t_1)) <|
 (gdE (EC.isL q26p (EC.encL q26p b0)) <|
 (Option.bind (q1h9 l (EC.decL q26p (EC.encL q26p t_1)) (List.length (EC.encL q26p t_1):Int) 0 (EC.decL q26p (EC.encL q26p b0))) fun r2 =>
 (gdE (EC.isL q26p (EC.encL q26p r2.2)) <|
 (some (r2.1.1,(r2.1.1,(EC.decL q26p (EC.encL q26p r2.2)))))))))))))
 (gdE (EC.isL q26p (EC.encL q26p t_1)) <|
 (gdE (EC.isL q26p (EC.encL q26p b0)) <|
 (Option.bind (q1h9 l (EC.decL q26p (EC.encL q26p t_1)) (List.length (EC.encL q26p t_1):Int) 0 (EC.decL q26p (EC.encL q26p b0))) fun r1 =>
 (gdE (EC.isL q26p (EC.encL q26p r1.2)) <|
 (some (r1.1.1,(r1.1.1,(EC.decL q26p (EC.encL q26p r1.2))))))))))))
theorem q1h8 {l} {t} {t_1} {t_2} {t_3} {t_4} {t_5} {b0} {r} (h:q1hj l t t_1 t_2 t_3 t_4 t_5 b0=some r):q1h6 l t t_1 t_2 t_3 t_4 t_5 b0=some r :=
 qis (fn:=Tryz.f98) (es:=q1ji) (hs:=q1eu) [q1ha] (by kernel_rfl) rfl (by kernel_rfl) ⟨⟨_,rfl,rfl⟩,trivial⟩ trivial (by kernel_rfl) h
def q1ia:=sLS [0,7,8,9] (q279 (vRow 0) (q279 (vC (cSl q26r)) (q279 (vC (cInt .i64)) (q27b (vC (cInt .i64)))))) (q27b (q27g (bRow q26p))) [false] [] (by decide) (fun _=>rfl)
def q1i9:=sLS [0,7,8,9,10] (q279 (vRow 0) (q279 (vC (cSl q26r)) (q279 (vC (cInt .i64)) (q279 (vC (cInt .i64)) (q27b (vC cBool)))))) (q27b (q27g (bRow q26p))) [false] [] (by decide) (fun _=>rfl)
def q1i8:=oAt 2 q1i9
def q1i5 (l:Nat) (t7:(List S50)) (t8:Int) (t9:Int) (b0:(List S48)):Option ((Nat × (List S50) × Int × Int × Bool) × (List S48)):=lS Tryz.prog lv X0 72 29 (q270 (cdF Tryz.f72) 2) q1ia q1i8 ((l,t7,t8,t9),b0)
def q1ib (l:Nat) (t7:(List S50)) (t8:Int) (t9:Int) (b0:(List S48)):Option ((Nat × (List S50) × Int × Int × Bool) × (List S48)) :=
 (brE (decide (t9<t8))
 (gdE (decide (0≤t9)) <|
 (gdE ((decide ((Int.toNat t9)<(List.length (EC.encL q26r t7))))&&(isE [(K1.int Go.IntKind.i64),(K1.int Go.IntKind.i64),K1.sl,K1.str,(K1.int Go.IntKind.i64),K1.str,(K1.int Go.IntKind.i64),K1.sl,K1.sl,(K1.int Go.IntKind.i64),K1.str,K1.str,(K1.int Go.IntKind.i64)] 0 (List.getD (EC.encL q26r t7) (Int.toNat t9) []))) <|
 (brE ((q273 (List.getD (List.getD (EC.encL q26r t7) (Int.toNat t9) []) 0 C.ne))==1)
 (gdE (EC.isL q26p (slOf (List.getD (List.getD (EC.encL q26r t7) (Int.toNat t9) []) 2 C.ne))) <|
 (gdE (EC.isL q26p (EC.encL q26p b0)) <|
 (Option.bind (q1h6 l (q273 (List.getD (List.getD (EC.encL q26r t7) (Int.toNat t9) []) 1 C.ne)) (EC.decL q26p (slOf (List.getD (List.getD (EC.encL q26r t7) (Int.toNat t9) []) 2 C.ne))) (q27s (List.getD (List.getD (EC.encL q26r t7) (Int.toNat t9) []) 3 C.ne)) (q273 (List.getD (List.getD (EC.encL q26r t7) (Int.toNat t9) []) 4 C.ne)) (q27s (List.getD (List.getD (EC.encL q26r t7) (Int.toNat t9) []) 5 C.ne)) (q273 (List.getD (List.getD (EC.encL q26r t7) (Int.toNat t9) []) 6 C.ne)) (EC.decL q26p (EC.encL q26p b0))) fun r0 =>
 (gdE (EC.isL q26r (slOf (List.getD (List.getD (EC.encL q26r t7) (Int.toNat t9) []) 7 C.ne))) <|
 (gdE (EC.isL q26p (EC.encL q26p r0.2.2)) <|
 (Option.bind (q1i2 r0.1 (EC.decL q26r (slOf (List.getD (List.getD (EC.encL q26r t7) (Int.toNat t9) []) 7 C.ne))) (EC.decL q26p (EC.encL q26p r0.2.2))) fun r1 =>
 (gdE (EC.isL q26r (slOf (List.getD (List.getD (EC.encL q26r t7) (Int.toNat t9) []) 8 C.ne))) <|
 (gdE (EC.isL q26p (EC.encL q26p r1.2.2)) <|
 (Option.bind (q1i2 r1.1 (EC.decL q26r (slOf (List.getD (List.getD (EC.encL q26r t7) (Int.toNat t9) []) 8 C.ne))) (EC.decL q26p (EC.encL q26p r1.2.2))) fun r2 =>
 (gdE (EC.isL q26r (EC.encL q26r t7)) <|
 (gdE (EC.isL q26p (EC.encL q26p r2.2.2)) <|
 (q1i5 r2.1 (EC.decL q26r (EC.encL q26r t7)) t8 (IntKind.wrap .i64 (t9+1)) (EC.decL q26p (EC.encL q26p r2.2.2))))))))))))))
 (gdE (EC.isL q26r (slOf (List.getD (List.getD (EC.encL q26r t7) (Int.toNat t9) []) 7 C.ne))) <|
 (gdE (EC.isL q26p (EC.encL q26p b0)) <|
 (Option.bind (q1i2 l (EC.decL q26r (slOf (List.getD (List.getD (EC.encL q26r t7) (Int.toNat t9) []) 7 C.ne))) (EC.decL q26p (EC.encL q26p b0))) fun r0 =>
 (gdE (EC.isL q26r (slOf (List.getD (List.getD (EC.encL q26r t7) (Int.toNat t9) []) 8 C.ne))) <|
 (gdE (EC.isL q26p (EC.encL q26p r0.2.2)) <|
 (Option.bind (q1i2 r0.1 (EC.decL q26r (slOf (List.getD (List.getD (EC.encL q26r t7) (Int.toNat t9) []) 8 C.ne))) (EC.decL q26p (EC.encL q26p r0.2.2))) fun r1 =>
 (gdE (EC.isL q26r (EC.encL q26r t7)) <|
 (gdE (EC.isL q26p (EC.encL q26p r1.2.2)) <|
 (q1i5 r1.1 (EC.decL q26r (EC.encL q26r t7)) t8 (IntKind.wrap .i64 (t9+1)) (EC.decL q26p (EC.encL q26p r1.2.2))))))))))))))
 (gdE (EC.isL q26r (EC.encL q26r t7)) <|
 (gdE (EC.isL q26p (EC.encL q26p b0)) <|
 (some ((l,((EC.decL q26r (EC.encL q26r t7)),(t8,(t9,false)))),(EC.decL q26p (EC.encL q26p b0)))))))
theorem q1i7 {l} {t7} {t8} {t9} {b0} {r} (h:q1ib l t7 t8 t9 b0=some r):q1i5 l t7 t8 t9 b0=some r :=
 qm5 (es:=q1ji) (hs:=q1eu) [] (by kernel_rfl) trivial trivial (by kernel_rfl) h
def q1i6:=q27d Tryz.prog lv X0 2 (q270 (cdF Tryz.f72) 2) q1ia q1i8 (fun x=>q1i5 x.1.1 x.1.2.1 x.1.2.2.1 x.1.2.2.2 x.2) (fun _ _ h=>qm4 h)
def q1if (l:Nat) (s:(List S50)) (b0:(List S48)):Option (Nat × (Nat × (List S48))) :=
 (gdE (EC.isL q26r (EC.encL q26r s)) <|
 (gdE (EC.isL q26p (EC.encL q26p b0)) <|
 (Option.bind (q1i5 l (EC.decL q26r (EC.encL q26r s)) (List.length (EC.encL q26r s):Int) 0 (EC.decL q26p (EC.encL q26p b0))) fun r0 =>
 (gdE (EC.isL q26p (EC.encL q26p r0.2)) <|
 (some (r0.1.1,(r0.1.1,(EC.decL q26p (EC.encL q26p r0.2)))))))))
theorem q1i4 {l} {s} {b0} {r} (h:q1if l s b0=some r):q1i2 l s b0=some r :=
 qis (fn:=Tryz.f72) (es:=q1ji) (hs:=q1eu) [q1i6] (by kernel_rfl) rfl (by kernel_rfl) ⟨⟨_,rfl,rfl⟩,trivial⟩ trivial (by kernel_rfl) h
def q1it:=sLS [0,1,2] (q279 (vPtr 0 0) (q279 (vC (cSl q26r)) (q27b (vC (cInt .i64))))) (q279 (q27g (bBox (q279 (vRow 1) (q279 (vC (cInt .i64)) (q279 (vRow 2) (q27b (vRow 3))))))) (q279 (q27g (bRow q26p)) (q279 (q27g (bRow q26n)) (q27b (q27g (bRow q26o)))))) [false,false,false,false] [0,1,2] (by decide) (fun _=>rfl)
def q1is:SC (Bool × ((Nat × Int × Nat × Nat) × (List S48) × (List Bool) × (List S45))):=sLS [0] (q27b (vC cBool)) (q279 (q27g (bBox (q279 (vRow 1) (q279 (vC (cInt .i64)) (q279 (vRow 2) (q27b (vRow 3))))))) (q279 (q27g (bRow q26p)) (q279 (q27g (bRow q26n)) (q27b (q27g (bRow q26o)))))) [false,false,false,false] [0,1,2] (by decide) (fun _=>rfl)
def q1ir:HC (Bool × (Bool × ((Nat × Int × Nat × Nat) × (List S48) × (List Bool) × (List S45)))):=hPair (vC cBool) q1is
def q1ig (s:(List S50)) (number:Int) (b0:Nat) (b0_1:Int) (b0_2:Nat) (b0_3:Nat) (b1:(List S48)) (b2:(List Bool)) (b3:(List S45)):Option (Bool × (Bool × ((Nat × Int × Nat × Nat) × (List S48) × (List Bool) × (List S45)))):=hS Tryz.prog lv X0 74 q1it q1ir (((),s,number),((b0,b0_1,b0_2,b0_3),b1,b2,b3))
def q1ih:=hentS Tryz.prog lv X0 74 [0,3,0,0,1,1,4,2,1,1,1,4,2,1,1,1,2,2,2,3,2,2,2,0,1,2] q1it q1ir (fun x=>q1ig x.1.2.1 x.1.2.2 x.2.1.1 x.2.1.2.1 x.2.1.2.2.1 x.2.1.2.2.2 x.2.2.1 x.2.2.2.1 x.2.2.2.2) (fun _ _ h=>qir h)
def q1ew:=q1ih::q1eu
def q1j7:=sLS [0,1] (q279 (vPtr 0 0) (q27b (vAgg (q279 (vC (cInt .i64)) (q279 (vC (cSl q26p)) (q279 (vC cStr) (q279 (vC (cInt .i64)) (q279 (vC cStr) (q27b (vC (cInt .i64))))))))))) (q279 (q27g (bBox (q279 (vRow 1) (q279 (vC (cInt .i64)) (q279 (vRow 2) (q27b (vRow 3))))))) (q279 (q27g (bRow q26p)) (q279 (q27g (bRow q26n)) (q27b (q27g (bRow q26o)))))) [false,false,false,false] [0,1,2] (by decide) (fun _=>rfl)
def q1j6:SC (Bool × ((Nat × Int × Nat × Nat) × (List S48) × (List Bool) × (List S45))):=sLS [0] (q27b (vC cBool)) (q279 (q27g (bBox (q279 (vRow 1) (q279 (vC (cInt .i64)) (q279 (vRow 2) (q27b (vRow 3))))))) (q279 (q27g (bRow q26p)) (q279 (q27g (bRow q26n)) (q27b (q27g (bRow q26o)))))) [false,false,false,false] [0,1,2] (by decide) (fun _=>rfl)
def q1j5:HC (Bool × (Bool × ((Nat × Int × Nat × Nat) × (List S48) × (List Bool) × (List S45)))):=hPair (vC cBool) q1j6
def q1j2 (t:Int) (t_1:(List S48)) (t_2:ByteArray) (t_3:Int) (t_4:ByteArray) (t_5:Int) (b0:Nat) (b0_1:Int) (b0_2:Nat) (b0_3:Nat) (b1:(List S48)) (b2:(List Bool)) (b3:(List S45)):Option (Bool × (Bool × ((Nat × Int × Nat × Nat) × (List S48) × (List Bool) × (List S45)))):=hS Tryz.prog lv X0 99 q1j7 q1j5 (((),(t,t_1,t_2,t_3,t_4,t_5)),((b0,b0_1,b0_2,b0_3),b1,b2,b3))
def q1j3:=hentS Tryz.prog lv X0 99 [0,3,0,0,1,7,6,1,1,1,4,1,3,1,1,1,3,1,1,1,4,2,1,1,1,2,2,2,3,2,2,2,0,1,2] q1j7 q1j5 (fun x=>q1j2 x.1.2.1 x.1.2.2.1 x.1.2.2.2.1 x.1.2.2.2.2.1 x.1.2.2.2.2.2.1 x.1.2.2.2.2.2.2 x.2.1.1 x.2.1.2.1 x.2.1.2.2.1 x.2.1.2.2.2 x.2.2.1 x.2.2.2.1 x.2.2.2.2) (fun _ _ h=>qir h)
def q1ey:=q1j3::q1ew
def q1cp:=sLS [0,1] (q279 (vC (cSl q26p)) (q27b (vFn 125 (q27b (vPtr 0 0))))) (q279 (q27g (bBox (q27b (vPtr 1 0)))) (q279 (q27g (bBox (q279 (vRow 2) (q279 (vC (cInt .i64)) (q279 (vRow 3) (q27b (vRow 4))))))) (q279 (q27g (bRow q26p)) (q279 (q27g (bRow q26n)) (q27b (q27g (bRow q26o))))))) [false,false,false,false,false] [0,1,2,3] (by decide) (fun _=>rfl)
def q1d4:=sLS [0,1] (q279 (vC (cSl q26p)) (q27b (vFn 125 (q27b (vPtr 0 0))))) (q279 (q27g (bBox (q27b (vPtr 1 0)))) (q279 (q27g (bBox (q279 (vRow 2) (q279 (vC (cInt .i64)) (q279 (vRow 3) (q27b (vRow 4))))))) (q279 (q27g (bRow q26p)) (q279 (q27g (bRow q26n)) (q27b (q27g (bRow q26o))))))) [false,false,false,false,false] [0,1,2,3] (by decide) (fun _=>rfl)
def q1j0:=sLS [0,1] (q279 (vAgg (q279 (vC (cInt .i64)) (q279 (vC (cSl q26p)) (q279 (vC cStr) (q279 (vC (cInt .i64)) (q279 (vC cStr) (q27b (vC (cInt .i64))))))))) (q27b (vPtr 0 0))) (q279 (q27g (bBox (q27b (vPtr 1 0)))) (q279 (q27g (bBox (q279 (vRow 2) (q279 (vC (cInt .i64)) (q279 (vRow 3) (q27b (vRow 4))))))) (q279 (q27g (bRow q26p)) (q279 (q27g (bRow q26n)) (q27b (q27g (bRow q26o))))))) [false,false,false,false,false] [0,1,2,3] (by decide) (fun _=>rfl)
def q1iz:SC (Bool × (Unit × (Nat × Int × Nat × Nat) × (List S48) × (List Bool) × (List S45))):=sLS [0] (q27b (vC cBool)) (q279 (q27g (bBox (q27b (vPtr 1 0)))) (q279 (q27g (bBox (q279 (vRow 2) (q279 (vC (cInt .i64)) (q279 (vRow 3) (q27b (vRow 4))))))) (q279 (q27g (bRow q26p)) (q279 (q27g (bRow q26n)) (q27b (q27g (bRow q26o))))))) [false,false,false,false,false] [0,1,2,3] (by decide) (fun _=>rfl)
def q1iy:HC (Bool × (Bool × (Unit × (Nat × Int × Nat × Nat) × (List S48) × (List Bool) × (List S45)))):=hPair (vC cBool) q1iz
def q1iv (y:Int) (y_1:(List S48)) (y_2:ByteArray) (y_3:Int) (y_4:ByteArray) (y_5:Int) (b1:Nat) (b1_1:Int) (b1_2:Nat) (b1_3:Nat) (b2:(List S48)) (b3:(List Bool)) (b4:(List S45)):Option (Bool × (Bool × (Unit × (Nat × Int × Nat × Nat) × (List S48) × (List Bool) × (List S45)))):=hS Tryz.prog lv X0 125 q1j0 q1iy (((y,y_1,y_2,y_3,y_4,y_5),()),((),(b1,b1_1,b1_2,b1_3),b2,b3,b4))
def q1j1 (y:Int) (y_1:(List S48)) (y_2:ByteArray) (y_3:Int) (y_4:ByteArray) (y_5:Int) (b1:Nat) (b1_1:Int) (b1_2:Nat) (b1_3:Nat) (b2:(List S48)) (b3:(List Bool)) (b4:(List S45)):Option (Bool × (Bool × (Unit × (Nat × Int × Nat × Nat) × (List S48) × (List Bool) × (List S45)))) :=
 (gdE (EC.isL q26p (EC.encL q26p y_1)) <|
 (gdE (EC.isL q26p (EC.encL q26p b2)) <|
 (gdE (EC.isL q26n (EC.encL q26n b3)) <|
 (gdE (EC.isL q26o (EC.encL q26o b4)) <|
 (Option.bind (q1j2 y (EC.decL q26p (EC.encL q26p y_1)) y_2 y_3 y_4 y_5 b1 b1_1 b1_2 b1_3 (EC.decL q26p (EC.encL q26p b2)) (EC.decL q26n (EC.encL q26n b3)) (EC.decL q26o (EC.encL q26o b4))) fun r0 =>
 (gdE (EC.isL q26p (EC.encL q26p r0.2.2.2.1)) <|
 (gdE (EC.isL q26n (EC.encL q26n r0.2.2.2.2.1)) <|
 (gdE (EC.isL q26o (EC.encL q26o r0.2.2.2.2.2)) <|
 (some ((!r0.1),((!r0.1),((),((r0.2.2.1.1,(r0.2.2.1.2.1,(r0.2.2.1.2.2.1,r0.2.2.1.2.2.2))),((EC.decL q26p (EC.encL q26p r0.2.2.2.1)),((EC.decL q26n (EC.encL q26n r0.2.2.2.2.1)),(EC.decL q26o (EC.encL q26o r0.2.2.2.2.2)))))))))))))))))
theorem q1ix {y} {y_1} {y_2} {y_3} {y_4} {y_5} {b1} {b1_1} {b1_2} {b1_3} {b2} {b3} {b4} {r} (h:q1j1 y y_1 y_2 y_3 y_4 y_5 b1 b1_1 b1_2 b1_3 b2 b3 b4=some r):q1iv y y_1 y_2 y_3 y_4 y_5 b1 b1_1 b1_2 b1_3 b2 b3 b4=some r :=
 qis (fn:=Tryz.f125) (es:=q1ji) (hs:=q1ey) [] (by kernel_rfl) rfl (by kernel_rfl) trivial trivial (by kernel_rfl) h
def q1iw:=hentS Tryz.prog lv X0 125 [0,7,6,1,1,1,4,1,3,1,1,1,3,1,1,1,3,0,0,1,1,3,1,0,1,4,2,2,1,1,2,3,2,4,2,2,2,0,1,2,3] q1j0 q1iy (fun x=>q1iv x.1.1.1 x.1.1.2.1 x.1.1.2.2.1 x.1.1.2.2.2.1 x.1.1.2.2.2.2.1 x.1.1.2.2.2.2.2 x.2.2.1.1 x.2.2.1.2.1 x.2.2.1.2.2.1 x.2.2.1.2.2.2 x.2.2.2.1 x.2.2.2.2.1 x.2.2.2.2.2) (fun _ _ h=>qir h)
def q1ex:=q1iw::q1ey
def q1d0:=sLS [0,1,7,8] (q279 (vC (cSl q26p)) (q279 (vFn 125 (q27b (vPtr 0 0))) (q279 (vC (cInt .i64)) (q27b (vC (cInt .i64)))))) (q279 (q27g (bBox (q27b (vPtr 1 0)))) (q279 (q27g (bBox (q279 (vRow 2) (q279 (vC (cInt .i64)) (q279 (vRow 3) (q27b (vRow 4))))))) (q279 (q27g (bRow q26p)) (q279 (q27g (bRow q26n)) (q27b (q27g (bRow q26o))))))) [false,false,false,false,false] [0,1,2,3] (by decide) (fun _=>rfl)
def q1cz:=sLS [0,1,7,8,9] (q279 (vC (cSl q26p)) (q279 (vFn 125 (q27b (vPtr 0 0))) (q279 (vC (cInt .i64)) (q279 (vC (cInt .i64)) (q27b (vC cBool)))))) (q279 (q27g (bBox (q27b (vPtr 1 0)))) (q279 (q27g (bBox (q279 (vRow 2) (q279 (vC (cInt .i64)) (q279 (vRow 3) (q27b (vRow 4))))))) (q279 (q27g (bRow q26p)) (q279 (q27g (bRow q26n)) (q27b (q27g (bRow q26o))))))) [false,false,false,false,false] [0,1,2,3] (by decide) (fun _=>rfl)
def q1cy:=sLS [4] (q27b (vC (cInt .i64))) (q279 (q27g (bBox (q27b (vPtr 1 0)))) (q279 (q27g (bBox (q279 (vRow 2) (q279 (vC (cInt .i64)) (q279 (vRow 3) (q27b (vRow 4))))))) (q279 (q27g (bRow q26p)) (q279 (q27g (bRow q26n)) (q27b (q27g (bRow q26o))))))) [false,false,false,false,false] [0,1,2,3] (by decide) (fun _=>rfl)
def q1cx:=oOr 1 q1cy (oAt 2 q1cz) (fun x=>(by decide:(2:Nat)≠1))
def q1cu (s:(List S48)) (t7:Int) (t8:Int) (b1:Nat) (b1_1:Int) (b1_2:Nat) (b1_3:Nat) (b2:(List S48)) (b3:(List Bool)) (b4:(List S45)):Option ((Int × (Unit × (Nat × Int × Nat × Nat) × (List S48) × (List Bool) × (List S45))) ⊕ (((List S48) × Unit × Int × Int × Bool) × (Unit × (Nat × Int × Nat × Nat) × (List S48) × (List Bool) × (List S45)))):=lS Tryz.prog lv X0 148 19 (q270 (cdF Tryz.f148) 2) q1d0 q1cx ((s,(),t7,t8),((),(b1,b1_1,b1_2,b1_3),b2,b3,b4))
def q1d1 (s:(List S48)) (t7:Int) (t8:Int) (b1:Nat) (b1_1:Int) (b1_2:Nat) (b1_3:Nat) (b2:(List S48)) (b3:(List Bool)) (b4:(List S45)):Option ((Int × (Unit × (Nat × Int × Nat × Nat) × (List S48) × (List Bool) × (List S45))) ⊕ (((List S48) × Unit × Int × Int × Bool) × (Unit × (Nat × Int × Nat × Nat) × (List S48) × (List Bool) × (List S45)))) :=
 (brE (decide (t8<t7))
 (gdE (decide (0≤t8)) <|
 (gdE ((decide ((Int.toNat t8)<(List.length (EC.encL q26p s))))&&(isE [(K1.int Go.IntKind.i64),K1.sl,K1.str,(K1.int Go.IntKind.i64),K1.str,(K1.int Go.IntKind.i64)] 0 (List.getD (EC.encL q26p s) (Int.toNat t8) []))) <|
 (gdE (EC.isL q26p (slOf (List.getD (List.getD (EC.encL q26p s) (Int.toNat t8) []) 1 C.ne))) <|
 (gdE (EC.isL q26p (EC.encL q26p b2)) <|
 (gdE (EC.isL q26n (EC.encL q26n b3)) <|
 (gdE (EC.isL q26o (EC.encL q26o b4)) <|
 (Option.bind (q1iv (q273 (List.getD (List.getD (EC.encL q26p s) (Int.toNat t8) []) 0 C.ne)) (EC.decL q26p (slOf (List.getD (List.getD (EC.encL q26p s) (Int.toNat t8) []) 1 C.ne))) (q27s (List.getD (List.getD (EC.encL q26p s) (Int.toNat t8) []) 2 C.ne)) (q273 (List.getD (List.getD (EC.encL q26p s) (Int.toNat t8) []) 3 C.ne)) (q27s (List.getD (List.getD (EC.encL q26p s) (Int.toNat t8) []) 4 C.ne)) (q273 (List.getD (List.getD (EC.encL q26p s) (Int.toNat t8) []) 5 C.ne)) b1 b1_1 b1_2 b1_3 (EC.decL q26p (EC.encL q26p b2)) (EC.decL q26n (EC.encL q26n b3)) (EC.decL q26o (EC.encL q26o b4))) fun r0 =>
 (brE r0.1
 (gdE (EC.isL q26p (EC.encL q26p r0.2.2.2.2.1)) <|
 (gdE (EC.isL q26n (EC.encL q26n r0.2.2.2.2.2.1)) <|
 (gdE (EC.isL q26o (EC.encL q26o r0.2.2.2.2.2.2)) <|
 (some (.inl (t8,((),((r0.2.2.2.1.1,(r0.2.2.2.1.2.1,(r0.2.2.2.1.2.2.1,r0.2.2.2.1.2.2.2))),((EC.decL q26p (EC.encL q26p r0.2.2.2.2.1)),((EC.decL q26n (EC.encL q26n r0.2.2.2.2.2.1)),(EC.decL q26o (EC.encL q26o r0.2.2.2.2.2.2))))))))))))
 (gdE (EC.isL q26p (EC.encL q26p s)) <|
 (gdE (EC.isL q26p (EC.encL q26p r0.2.2.2.2.1)) <|
 (gdE (EC.isL q26n (EC.encL q26n r0.2.2.2.2.2.1)) <|
 (gdE (EC.isL q26o (EC.encL q26o r0.2.2.2.2.2.2)) <|
 (q1cu (EC.decL q26p (EC.encL q26p s)) t7 (IntKind.wrap .i64 (t8+1)) r0.2.2.2.1.1 r0.2.2.2.1.2.1 r0.2.2.2.1.2.2.1 r0.2.2.2.1.2.2.2 (EC.decL q26p (EC.encL q26p r0.2.2.2.2.1)) (EC.decL q26n (EC.encL q26n r0.2.2.2.2.2.1)) (EC.decL q26o (EC.encL q26o r0.2.2.2.2.2.2)))))))))))))))
 (gdE (EC.isL q26p (EC.encL q26p s)) <|
 (gdE (EC.isL q26p (EC.encL q26p b2)) <|
 (gdE (EC.isL q26n (EC.encL q26n b3)) <|
 (gdE (EC.isL q26o (EC.encL q26o b4)) <|
 (some (.inr (((EC.decL q26p (EC.encL q26p s)),((),(t7,(t8,false)))),((),((b1,(b1_1,(b1_2,b1_3))),((EC.decL q26p (EC.encL q26p b2)),((EC.decL q26n (EC.encL q26n b3)),(EC.decL q26o (EC.encL q26o b4))))))))))))))
theorem q1cw {s} {t7} {t8} {b1} {b1_1} {b1_2} {b1_3} {b2} {b3} {b4} {r} (h:q1d1 s t7 t8 b1 b1_1 b1_2 b1_3 b2 b3 b4=some r):q1cu s t7 t8 b1 b1_1 b1_2 b1_3 b2 b3 b4=some r :=
 qm5 (es:=q1ji) (hs:=q1ex) [] (by kernel_rfl) trivial trivial (by kernel_rfl) h
def q1cv:=q27d Tryz.prog lv X0 2 (q270 (cdF Tryz.f148) 2) q1d0 q1cx (fun x=>q1cu x.1.1 x.1.2.2.1 x.1.2.2.2 x.2.2.1.1 x.2.2.1.2.1 x.2.2.1.2.2.1 x.2.2.1.2.2.2 x.2.2.2.1 x.2.2.2.2.1 x.2.2.2.2.2) (fun _ _ h=>qm4 h)
def q1d3:SC (Int × (Unit × (Nat × Int × Nat × Nat) × (List S48) × (List Bool) × (List S45))):=sLS [0] (q27b (vC (cInt .i64))) (q279 (q27g (bBox (q27b (vPtr 1 0)))) (q279 (q27g (bBox (q279 (vRow 2) (q279 (vC (cInt .i64)) (q279 (vRow 3) (q27b (vRow 4))))))) (q279 (q27g (bRow q26p)) (q279 (q27g (bRow q26n)) (q27b (q27g (bRow q26o))))))) [false,false,false,false,false] [0,1,2,3] (by decide) (fun _=>rfl)
def q1d2:HC (Int × (Int × (Unit × (Nat × Int × Nat × Nat) × (List S48) × (List Bool) × (List S45)))):=hPair (vC (cInt .i64)) q1d3
def q1cr (s:(List S48)) (b1:Nat) (b1_1:Int) (b1_2:Nat) (b1_3:Nat) (b2:(List S48)) (b3:(List Bool)) (b4:(List S45)):Option (Int × (Int × (Unit × (Nat × Int × Nat × Nat) × (List S48) × (List Bool) × (List S45)))):=hS Tryz.prog lv X0 148 q1d4 q1d2 ((s,()),((),(b1,b1_1,b1_2,b1_3),b2,b3,b4))
def q1d5 (s:(List S48)) (b1:Nat) (b1_1:Int) (b1_2:Nat) (b1_3:Nat) (b2:(List S48)) (b3:(List Bool)) (b4:(List S45)):Option (Int × (Int × (Unit × (Nat × Int × Nat × Nat) × (List S48) × (List Bool) × (List S45)))) :=
 (gdE (EC.isL q26p (EC.encL q26p s)) <|
 (gdE (EC.isL q26p (EC.encL q26p b2)) <|
 (gdE (EC.isL q26n (EC.encL q26n b3)) <|
 (gdE (EC.isL q26o (EC.encL q26o b4)) <|
 (Option.bind (q1cu (EC.decL q26p (EC.encL q26p s)) (List.length (EC.encL q26p s):Int) 0 b1 b1_1 b1_2 b1_3 (EC.decL q26p (EC.encL q26p b2)) (EC.decL q26n (EC.encL q26n b3)) (EC.decL q26o (EC.encL q26o b4))) fun r0 =>
 (Sum.elim (fun r1=>(gdE (EC.isL q26p (EC.encL q26p r1.2.2.2.1)) <|
 (gdE (EC.isL q26n (EC.encL q26n r1.2.2.2.2.1)) <|
 (gdE (EC.isL q26o (EC.encL q26o r1.2.2.2.2.2)) <|
 (some (r1.1,(r1.1,((),((r1.2.2.1.1,(r1.2.2.1.2.1,(r1.2.2.1.2.2.1,r1.2.2.1.2.2.2))),((EC.decL q26p (EC.encL q26p r1.2.2.2.1)),((EC.decL q26n (EC.encL q26n r1.2.2.2.2.1)),(EC.decL q26o (EC.encL q26o r1.2.2.2.2.2)))))))))))))
 (fun r1=>(gdE (EC.isL q26p (EC.encL q26p r1.2.2.2.1)) <|
 (gdE (EC.isL q26n (EC.encL q26n r1.2.2.2.2.1)) <|
 (gdE (EC.isL q26o (EC.encL q26o r1.2.2.2.2.2)) <|
 (some ((-1:Int),((-1:Int),((),((r1.2.2.1.1,(r1.2.2.1.2.1,(r1.2.2.1.2.2.1,r1.2.2.1.2.2.2))),((EC.decL q26p (EC.encL q26p r1.2.2.2.1)),((EC.decL q26n (EC.encL q26n r1.2.2.2.2.1)),(EC.decL q26o (EC.encL q26o r1.2.2.2.2.2))))))))))))) r0))))))
theorem q1ct {s} {b1} {b1_1} {b1_2} {b1_3} {b2} {b3} {b4} {r} (h:q1d5 s b1 b1_1 b1_2 b1_3 b2 b3 b4=some r):q1cr s b1 b1_1 b1_2 b1_3 b2 b3 b4=some r :=
 qis (fn:=Tryz.f148) (es:=q1ji) (hs:=q1ex) [q1cv] (by kernel_rfl) rfl (by kernel_rfl) ⟨⟨_,rfl,rfl⟩,trivial⟩ trivial (by kernel_rfl) h
def q1cs:=hentS Tryz.prog lv X0 148 [0,1,4,1,6,125,1,3,0,0,1,1,3,1,0,1,4,2,2,1,1,2,3,2,4,2,2,2,0,1,2,3] q1d4 q1d2 (fun x=>q1cr x.1.1 x.2.2.1.1 x.2.2.1.2.1 x.2.2.1.2.2.1 x.2.2.1.2.2.2 x.2.2.2.1 x.2.2.2.2.1 x.2.2.2.2.2) (fun _ _ h=>qir h)
def q1ep:=q1cs::q1ex
def q1co:SC (Bool × (Unit × (Nat × Int × Nat × Nat) × (List S48) × (List Bool) × (List S45))):=sLS [0] (q27b (vC cBool)) (q279 (q27g (bBox (q27b (vPtr 1 0)))) (q279 (q27g (bBox (q279 (vRow 2) (q279 (vC (cInt .i64)) (q279 (vRow 3) (q27b (vRow 4))))))) (q279 (q27g (bRow q26p)) (q279 (q27g (bRow q26n)) (q27b (q27g (bRow q26o))))))) [false,false,false,false,false] [0,1,2,3] (by decide) (fun _=>rfl)
def q1cn:HC (Bool × (Bool × (Unit × (Nat × Int × Nat × Nat) × (List S48) × (List Bool) × (List S45)))):=hPair (vC cBool) q1co
def q1ck (s:(List S48)) (b1:Nat) (b1_1:Int) (b1_2:Nat) (b1_3:Nat) (b2:(List S48)) (b3:(List Bool)) (b4:(List S45)):Option (Bool × (Bool × (Unit × (Nat × Int × Nat × Nat) × (List S48) × (List Bool) × (List S45)))):=hS Tryz.prog lv X0 124 q1cp q1cn ((s,()),((),(b1,b1_1,b1_2,b1_3),b2,b3,b4))
def q1cq (s:(List S48)) (b1:Nat) (b1_1:Int) (b1_2:Nat) (b1_3:Nat) (b2:(List S48)) (b3:(List Bool)) (b4:(List S45)):Option (Bool × (Bool × (Unit × (Nat × Int × Nat × Nat) × (List S48) × (List Bool) × (List S45)))) :=
 (gdE (EC.isL q26p (EC.encL q26p s)) <|
 (gdE (EC.isL q26p (EC.encL q26p b2)) <|
 (gdE (EC.isL q26n (EC.encL q26n b3)) <|
 (gdE (EC.isL q26o (EC.encL q26o b4)) <|
 (Option.bind (q1cr (EC.decL q26p (EC.encL q26p s)) b1 b1_1 b1_2 b1_3 (EC.decL q26p (EC.encL q26p b2)) (EC.decL q26n (EC.encL q26n b3)) (EC.decL q26o (EC.encL q26o b4))) fun r0 =>
 (gdE (EC.isL q26p (EC.encL q26p r0.2.2.2.2.1)) <|
 (gdE (EC.isL q26n (EC.encL q26n r0.2.2.2.2.2.1)) <|
 (gdE (EC.isL q26o (EC.encL q26o r0.2.2.2.2.2.2)) <|
 (some ((decide (r0.1 ≥ 0)),((decide (r0.1 ≥ 0)),((),((r0.2.2.2.1.1,(r0.2.2.2.1.2.1,(r0.2.2.2.1.2.2.1,r0.2.2.2.1.2.2.2))),((EC.decL q26p (EC.encL q26p r0.2.2.2.2.1)),((EC.decL q26n (EC.encL q26n r0.2.2.2.2.2.1)),(EC.decL q26o (EC.encL q26o r0.2.2.2.2.2.2)))))))))))))))))
theorem q1cm {s} {b1} {b1_1} {b1_2} {b1_3} {b2} {b3} {b4} {r} (h:q1cq s b1 b1_1 b1_2 b1_3 b2 b3 b4=some r):q1ck s b1 b1_1 b1_2 b1_3 b2 b3 b4=some r :=
 qis (fn:=Tryz.f124) (es:=q1ji) (hs:=q1ep) [] (by kernel_rfl) rfl (by kernel_rfl) trivial trivial (by kernel_rfl) h
def q1cl:=hentS Tryz.prog lv X0 124 [0,1,4,1,6,125,1,3,0,0,1,1,3,1,0,1,4,2,2,1,1,2,3,2,4,2,2,2,0,1,2,3] q1cp q1cn (fun x=>q1ck x.1.1 x.2.2.1.1 x.2.2.1.2.1 x.2.2.1.2.2.1 x.2.2.1.2.2.2 x.2.2.2.1 x.2.2.2.2.1 x.2.2.2.2.2) (fun _ _ h=>qir h)
def q1eo:=q1cl::q1ep
def q1db:=sLS [0,1] (q279 (vC (cSl q26p)) (q27b (vFn 1000099 (q27b (vPtr 0 0))))) (q279 (q27g (bBox (q279 (vRow 1) (q279 (vC (cInt .i64)) (q279 (vRow 2) (q27b (vRow 3))))))) (q279 (q27g (bRow q26p)) (q279 (q27g (bRow q26n)) (q27b (q27g (bRow q26o)))))) [false,false,false,false] [0,1,2] (by decide) (fun _=>rfl)
def q1dq:=sLS [0,1] (q279 (vC (cSl q26p)) (q27b (vFn 1000099 (q27b (vPtr 0 0))))) (q279 (q27g (bBox (q279 (vRow 1) (q279 (vC (cInt .i64)) (q279 (vRow 2) (q27b (vRow 3))))))) (q279 (q27g (bRow q26p)) (q279 (q27g (bRow q26n)) (q27b (q27g (bRow q26o)))))) [false,false,false,false] [0,1,2] (by decide) (fun _=>rfl)
def q1dm:=sLS [0,1,7,8] (q279 (vC (cSl q26p)) (q279 (vFn 1000099 (q27b (vPtr 0 0))) (q279 (vC (cInt .i64)) (q27b (vC (cInt .i64)))))) (q279 (q27g (bBox (q279 (vRow 1) (q279 (vC (cInt .i64)) (q279 (vRow 2) (q27b (vRow 3))))))) (q279 (q27g (bRow q26p)) (q279 (q27g (bRow q26n)) (q27b (q27g (bRow q26o)))))) [false,false,false,false] [0,1,2] (by decide) (fun _=>rfl)
def q1dl:=sLS [0,1,7,8,9] (q279 (vC (cSl q26p)) (q279 (vFn 1000099 (q27b (vPtr 0 0))) (q279 (vC (cInt .i64)) (q279 (vC (cInt .i64)) (q27b (vC cBool)))))) (q279 (q27g (bBox (q279 (vRow 1) (q279 (vC (cInt .i64)) (q279 (vRow 2) (q27b (vRow 3))))))) (q279 (q27g (bRow q26p)) (q279 (q27g (bRow q26n)) (q27b (q27g (bRow q26o)))))) [false,false,false,false] [0,1,2] (by decide) (fun _=>rfl)
def q1dk:=sLS [4] (q27b (vC (cInt .i64))) (q279 (q27g (bBox (q279 (vRow 1) (q279 (vC (cInt .i64)) (q279 (vRow 2) (q27b (vRow 3))))))) (q279 (q27g (bRow q26p)) (q279 (q27g (bRow q26n)) (q27b (q27g (bRow q26o)))))) [false,false,false,false] [0,1,2] (by decide) (fun _=>rfl)
def q1dj:=oOr 1 q1dk (oAt 2 q1dl) (fun x=>(by decide:(2:Nat)≠1))
def q1dg (s:(List S48)) (t7:Int) (t8:Int) (b0:Nat) (b0_1:Int) (b0_2:Nat) (b0_3:Nat) (b1:(List S48)) (b2:(List Bool)) (b3:(List S45)):Option ((Int × ((Nat × Int × Nat × Nat) × (List S48) × (List Bool) × (List S45))) ⊕ (((List S48) × Unit × Int × Int × Bool) × ((Nat × Int × Nat × Nat) × (List S48) × (List Bool) × (List S45)))):=lS Tryz.prog lv X0 148 19 (q270 (cdF Tryz.f148) 2) q1dm q1dj ((s,(),t7,t8),((b0,b0_1,b0_2,b0_3),b1,b2,b3))
def q1dn (s:(List S48)) (t7:Int) (t8:Int) (b0:Nat) (b0_1:Int) (b0_2:Nat) (b0_3:Nat) (b1:(List S48)) (b2:(List Bool)) (b3:(List S45)):Option ((Int × ((Nat × Int × Nat × Nat) × (List S48) × (List Bool) × (List S45))) ⊕ (((List S48) × Unit × Int × Int × Bool) × ((Nat × Int × Nat × Nat) × (List S48) × (List Bool) × (List S45)))) :=
 (brE (decide (t8<t7))
 (gdE (decide (0≤t8)) <|
 (gdE ((decide ((Int.toNat t8)<(List.length (EC.encL q26p s))))&&(isE [(K1.int Go.IntKind.i64),K1.sl,K1.str,(K1.int Go.IntKind.i64),K1.str,(K1.int Go.IntKind.i64)] 0 (List.getD (EC.encL q26p s) (Int.toNat t8) []))) <|
 (gdE (EC.isL q26p (slOf (List.getD (List.getD (EC.encL q26p s) (Int.toNat t8) []) 1 C.ne))) <|
 (gdE (EC.isL q26p (EC.encL q26p b1)) <|
 (gdE (EC.isL q26n (EC.encL q26n b2)) <|
 (gdE (EC.isL q26o (EC.encL q26o b3)) <|
 (Option.bind (q1j2 (q273 (List.getD (List.getD (EC.encL q26p s) (Int.toNat t8) []) 0 C.ne)) (EC.decL q26p (slOf (List.getD (List.getD (EC.encL q26p s) (Int.toNat t8) []) 1 C.ne))) (q27s (List.getD (List.getD (EC.encL q26p s) (Int.toNat t8) []) 2 C.ne)) (q273 (List.getD (List.getD (EC.encL q26p s) (Int.toNat t8) []) 3 C.ne)) (q27s (List.getD (List.getD (EC.encL q26p s) (Int.toNat t8) []) 4 C.ne)) (q273 (List.getD (List.getD (EC.encL q26p s) (Int.toNat t8) []) 5 C.ne)) b0 b0_1 b0_2 b0_3 (EC.decL q26p (EC.encL q26p b1)) (EC.decL q26n (EC.encL q26n b2)) (EC.decL q26o (EC.encL q26o b3))) fun r0 =>
 (brE r0.1
 (gdE (EC.isL q26p (EC.encL q26p r0.2.2.2.1)) <|
 (gdE (EC.isL q26n (EC.encL q26n r0.2.2.2.2.1)) <|
 (gdE (EC.isL q26o (EC.encL q26o r0.2.2.2.2.2)) <|
 (some (.inl (t8,((r0.2.2.1.1,(r0.2.2.1.2.1,(r0.2.2.1.2.2.1,r0.2.2.1.2.2.2))),((EC.decL q26p (EC.encL q26p r0.2.2.2.1)),((EC.decL q26n (EC.encL q26n r0.2.2.2.2.1)),(EC.decL q26o (EC.encL q26o r0.2.2.2.2.2)))))))))))
 (gdE (EC.isL q26p (EC.encL q26p s)) <|
 (gdE (EC.isL q26p (EC.encL q26p r0.2.2.2.1)) <|
 (gdE (EC.isL q26n (EC.encL q26n r0.2.2.2.2.1)) <|
 (gdE (EC.isL q26o (EC.encL q26o r0.2.2.2.2.2)) <|
 (q1dg (EC.decL q26p (EC.encL q26p s)) t7 (IntKind.wrap .i64 (t8+1)) r0.2.2.1.1 r0.2.2.1.2.1 r0.2.2.1.2.2.1 r0.2.2.1.2.2.2 (EC.decL q26p (EC.encL q26p r0.2.2.2.1)) (EC.decL q26n (EC.encL q26n r0.2.2.2.2.1)) (EC.decL q26o (EC.encL q26o r0.2.2.2.2.2)))))))))))))))
 (gdE (EC.isL q26p (EC.encL q26p s)) <|
 (gdE (EC.isL q26p (EC.encL q26p b1)) <|
 (gdE (EC.isL q26n (EC.encL q26n b2)) <|
 (gdE (EC.isL q26o (EC.encL q26o b3)) <|
 (some (.inr (((EC.decL q26p (EC.encL q26p s)),((),(t7,(t8,false)))),((b0,(b0_1,(b0_2,b0_3))),((EC.decL q26p (EC.encL q26p b1)),((EC.decL q26n (EC.encL q26n b2)),(EC.decL q26o (EC.encL q26o b3)))))))))))))
theorem q1di {s} {t7} {t8} {b0} {b0_1} {b0_2} {b0_3} {b1} {b2} {b3} {r} (h:q1dn s t7 t8 b0 b0_1 b0_2 b0_3 b1 b2 b3=some r):q1dg s t7 t8 b0 b0_1 b0_2 b0_3 b1 b2 b3=some r :=
 qm5 (es:=q1ji) (hs:=q1eo) [] (by kernel_rfl) trivial trivial (by kernel_rfl) h
def q1dh:=q27d Tryz.prog lv X0 2 (q270 (cdF Tryz.f148) 2) q1dm q1dj (fun x=>q1dg x.1.1 x.1.2.2.1 x.1.2.2.2 x.2.1.1 x.2.1.2.1 x.2.1.2.2.1 x.2.1.2.2.2 x.2.2.1 x.2.2.2.1 x.2.2.2.2) (fun _ _ h=>qm4 h)
def q1dp:SC (Int × ((Nat × Int × Nat × Nat) × (List S48) × (List Bool) × (List S45))):=sLS [0] (q27b (vC (cInt .i64))) (q279 (q27g (bBox (q279 (vRow 1) (q279 (vC (cInt .i64)) (q279 (vRow 2) (q27b (vRow 3))))))) (q279 (q27g (bRow q26p)) (q279 (q27g (bRow q26n)) (q27b (q27g (bRow q26o)))))) [false,false,false,false] [0,1,2] (by decide) (fun _=>rfl)
def q1do:HC (Int × (Int × ((Nat × Int × Nat × Nat) × (List S48) × (List Bool) × (List S45)))):=hPair (vC (cInt .i64)) q1dp
def q1dd (s:(List S48)) (b0:Nat) (b0_1:Int) (b0_2:Nat) (b0_3:Nat) (b1:(List S48)) (b2:(List Bool)) (b3:(List S45)):Option (Int × (Int × ((Nat × Int × Nat × Nat) × (List S48) × (List Bool) × (List S45)))):=hS Tryz.prog lv X0 148 q1dq q1do ((s,()),((b0,b0_1,b0_2,b0_3),b1,b2,b3))
def q1dr (s:(List S48)) (b0:Nat) (b0_1:Int) (b0_2:Nat) (b0_3:Nat) (b1:(List S48)) (b2:(List Bool)) (b3:(List S45)):Option (Int × (Int × ((Nat × Int × Nat × Nat) × (List S48) × (List Bool) × (List S45)))) :=
 (gdE (EC.isL q26p (EC.encL q26p s)) <|
 (gdE (EC.isL q26p (EC.encL q26p b1)) <|
 (gdE (EC.isL q26n (EC.encL q26n b2)) <|
 (gdE (EC.isL q26o (EC.encL q26o b3)) <|
 (Option.bind (q1dg (EC.decL q26p (EC.encL q26p s)) (List.length (EC.encL q26p s):Int) 0 b0 b0_1 b0_2 b0_3 (EC.decL q26p (EC.encL q26p b1)) (EC.decL q26n (EC.encL q26n b2)) (EC.decL q26o (EC.encL q26o b3))) fun r0 =>
 (Sum.elim (fun r1=>(gdE (EC.isL q26p (EC.encL q26p r1.2.2.1)) <|
 (gdE (EC.isL q26n (EC.encL q26n r1.2.2.2.1)) <|
 (gdE (EC.isL q26o (EC.encL q26o r1.2.2.2.2)) <|
 (some (r1.1,(r1.1,((r1.2.1.1,(r1.2.1.2.1,(r1.2.1.2.2.1,r1.2.1.2.2.2))),((EC.decL q26p (EC.encL q26p r1.2.2.1)),((EC.decL q26n (EC.encL q26n r1.2.2.2.1)),(EC.decL q26o (EC.encL q26o r1.2.2.2.2))))))))))))
 (fun r1=>(gdE (EC.isL q26p (EC.encL q26p r1.2.2.1)) <|
 (gdE (EC.isL q26n (EC.encL q26n r1.2.2.2.1)) <|
 (gdE (EC.isL q26o (EC.encL q26o r1.2.2.2.2)) <|
 (some ((-1:Int),((-1:Int),((r1.2.1.1,(r1.2.1.2.1,(r1.2.1.2.2.1,r1.2.1.2.2.2))),((EC.decL q26p (EC.encL q26p r1.2.2.1)),((EC.decL q26n (EC.encL q26n r1.2.2.2.1)),(EC.decL q26o (EC.encL q26o r1.2.2.2.2)))))))))))) r0))))))
theorem q1df {s} {b0} {b0_1} {b0_2} {b0_3} {b1} {b2} {b3} {r} (h:q1dr s b0 b0_1 b0_2 b0_3 b1 b2 b3=some r):q1dd s b0 b0_1 b0_2 b0_3 b1 b2 b3=some r :=
 qis (fn:=Tryz.f148) (es:=q1ji) (hs:=q1eo) [q1dh] (by kernel_rfl) rfl (by kernel_rfl) ⟨⟨_,rfl,rfl⟩,trivial⟩ trivial (by kernel_rfl) h
def q1de:=hentS Tryz.prog lv X0 148 [0,1,4,1,6,1000099,1,3,0,0,1,4,2,1,1,1,2,2,2,3,2,2,2,0,1,2] q1dq q1do (fun x=>q1dd x.1.1 x.2.1.1 x.2.1.2.1 x.2.1.2.2.1 x.2.1.2.2.2 x.2.2.1 x.2.2.2.1 x.2.2.2.2) (fun _ _ h=>qir h)
def q1er:=q1de::q1eo
def q1da:SC (Bool × ((Nat × Int × Nat × Nat) × (List S48) × (List Bool) × (List S45))):=sLS [0] (q27b (vC cBool)) (q279 (q27g (bBox (q279 (vRow 1) (q279 (vC (cInt .i64)) (q279 (vRow 2) (q27b (vRow 3))))))) (q279 (q27g (bRow q26p)) (q279 (q27g (bRow q26n)) (q27b (q27g (bRow q26o)))))) [false,false,false,false] [0,1,2] (by decide) (fun _=>rfl)
def q1d9:HC (Bool × (Bool × ((Nat × Int × Nat × Nat) × (List S48) × (List Bool) × (List S45)))):=hPair (vC cBool) q1da
def q1d6 (s:(List S48)) (b0:Nat) (b0_1:Int) (b0_2:Nat) (b0_3:Nat) (b1:(List S48)) (b2:(List Bool)) (b3:(List S45)):Option (Bool × (Bool × ((Nat × Int × Nat × Nat) × (List S48) × (List Bool) × (List S45)))):=hS Tryz.prog lv X0 124 q1db q1d9 ((s,()),((b0,b0_1,b0_2,b0_3),b1,b2,b3))
def q1dc (s:(List S48)) (b0:Nat) (b0_1:Int) (b0_2:Nat) (b0_3:Nat) (b1:(List S48)) (b2:(List Bool)) (b3:(List S45)):Option (Bool × (Bool × ((Nat × Int × Nat × Nat) × (List S48) × (List Bool) × (List S45)))) :=
 (gdE (EC.isL q26p (EC.encL q26p s)) <|
 (gdE (EC.isL q26p (EC.encL q26p b1)) <|
 (gdE (EC.isL q26n (EC.encL q26n b2)) <|
 (gdE (EC.isL q26o (EC.encL q26o b3)) <|
 (Option.bind (q1dd (EC.decL q26p (EC.encL q26p s)) b0 b0_1 b0_2 b0_3 (EC.decL q26p (EC.encL q26p b1)) (EC.decL q26n (EC.encL q26n b2)) (EC.decL q26o (EC.encL q26o b3))) fun r0 =>
 (gdE (EC.isL q26p (EC.encL q26p r0.2.2.2.1)) <|
 (gdE (EC.isL q26n (EC.encL q26n r0.2.2.2.2.1)) <|
 (gdE (EC.isL q26o (EC.encL q26o r0.2.2.2.2.2)) <|
 (some ((decide (r0.1 ≥ 0)),((decide (r0.1 ≥ 0)),((r0.2.2.1.1,(r0.2.2.1.2.1,(r0.2.2.1.2.2.1,r0.2.2.1.2.2.2))),((EC.decL q26p (EC.encL q26p r0.2.2.2.1)),((EC.decL q26n (EC.encL q26n r0.2.2.2.2.1)),(EC.decL q26o (EC.encL q26o r0.2.2.2.2.2))))))))))))))))
theorem q1d8 {s} {b0} {b0_1} {b0_2} {b0_3} {b1} {b2} {b3} {r} (h:q1dc s b0 b0_1 b0_2 b0_3 b1 b2 b3=some r):q1d6 s b0 b0_1 b0_2 b0_3 b1 b2 b3=some r :=
 qis (fn:=Tryz.f124) (es:=q1ji) (hs:=q1er) [] (by kernel_rfl) rfl (by kernel_rfl) trivial trivial (by kernel_rfl) h
def q1d7:=hentS Tryz.prog lv X0 124 [0,1,4,1,6,1000099,1,3,0,0,1,4,2,1,1,1,2,2,2,3,2,2,2,0,1,2] q1db q1d9 (fun x=>q1d6 x.1.1 x.2.1.1 x.2.1.2.1 x.2.1.2.2.1 x.2.1.2.2.2 x.2.2.1 x.2.2.2.1 x.2.2.2.2) (fun _ _ h=>qir h)
def q1eq:=q1d7::q1er
def q1j8 (t:Int) (t_1:(List S48)) (t_2:ByteArray) (t_3:Int) (t_4:ByteArray) (t_5:Int) (b0:Nat) (b0_1:Int) (b0_2:Nat) (b0_3:Nat) (b1:(List S48)) (b2:(List Bool)) (b3:(List S45)):Option (Bool × (Bool × ((Nat × Int × Nat × Nat) × (List S48) × (List Bool) × (List S45)))) :=
 (brE (t==1)
 (gdE (EC.isL q26p (EC.encL q26p b1)) <|
 (gdE (EC.isL q26n (EC.encL q26n b2)) <|
 (gdE (EC.isL q26o (EC.encL q26o b3)) <|
 (some (true,(true,((b0,(b0_1,(b0_2,b0_3))),((EC.decL q26p (EC.encL q26p b1)),((EC.decL q26n (EC.encL q26n b2)),(EC.decL q26o (EC.encL q26o b3)))))))))))
 (brE (t==2)
 (gdE ((decide ((Int.toNat 0)<(List.length (EC.encL q26p t_1))))&&(isE [(K1.int Go.IntKind.i64),K1.sl,K1.str,(K1.int Go.IntKind.i64),K1.str,(K1.int Go.IntKind.i64)] 0 (List.getD (EC.encL q26p t_1) (Int.toNat 0) []))) <|
 (gdE (EC.isL q26p (slOf (List.getD (List.getD (EC.encL q26p t_1) (Int.toNat 0) []) 1 C.ne))) <|
 (gdE (EC.isL q26p (EC.encL q26p b1)) <|
 (gdE (EC.isL q26n (EC.encL q26n b2)) <|
 (gdE (EC.isL q26o (EC.encL q26o b3)) <|
 (Option.bind (q1j2 (q273 (List.getD (List.getD (EC.encL q26p t_1) (Int.toNat 0) []) 0 C.ne)) (EC.decL q26p (slOf (List.getD (List.getD (EC.encL q26p t_1) (Int.toNat 0) []) 1 C.ne))) (q27s (List.getD (List.getD (EC.encL q26p t_1) (Int.toNat 0) []) 2 C.ne)) (q273 (List.getD (List.getD (EC.encL q26p t_1) (Int.toNat 0) []) 3 C.ne)) (q27s (List.getD (List.getD (EC.encL q26p t_1) (Int.toNat 0) []) 4 C.ne)) (q273 (List.getD (List.getD (EC.encL q26p t_1) (Int.toNat 0) []) 5 C.ne)) b0 b0_1 b0_2 b0_3 (EC.decL q26p (EC.encL q26p b1)) (EC.decL q26n (EC.encL q26n b2)) (EC.decL q26o (EC.encL q26o b3))) fun r0 =>
 (gdE (EC.isL q26p (EC.encL q26p r0.2.2.2.1)) <|
 (gdE (EC.isL q26n (EC.encL q26n r0.2.2.2.2.1)) <|
 (gdE (EC.isL q26o (EC.encL q26o r0.2.2.2.2.2)) <|
 (some ((!r0.1),((!r0.1),((r0.2.2.1.1,(r0.2.2.1.2.1,(r0.2.2.1.2.2.1,r0.2.2.1.2.2.2))),((EC.decL q26p (EC.encL q26p r0.2.2.2.1)),((EC.decL q26n (EC.encL q26n r0.2.2.2.2.1)),(EC.decL q26o (EC.encL q26o r0.2.2.2.2.2)))))))))))))))))
 (brE (t==3)
 (gdE (EC.isL q26p (EC.encL q26p t_1)) <|
 (gdE (EC.isL q26p (EC.encL q26p b1)) <|
 (gdE (EC.isL q26n (EC.encL q26n b2)) <|
 (gdE (EC.isL q26o (EC.encL q26o b3)) <|
 (Option.bind (q1ck (EC.decL q26p (EC.encL q26p t_1)) b0 b0_1 b0_2 b0_3 (EC.decL q26p (EC.encL q26p b1)) (EC.decL q26n (EC.encL q26n b2)) (EC.decL q26o (EC.encL q26o b3))) fun r0 =>
 (gdE (EC.isL q26p (EC.encL q26p r0.2.2.2.2.1)) <|
 (gdE (EC.isL q26n (EC.encL q26n r0.2.2.2.2.2.1)) <|
 (gdE (EC.isL q26o (EC.encL q26o r0.2.2.2.2.2.2)) <|
 (some ((!r0.1),((!r0.1),((r0.2.2.2.1.1,(r0.2.2.2.1.2.1,(r0.2.2.2.1.2.2.1,r0.2.2.2.1.2.2.2))),((EC.decL q26p (EC.encL q26p r0.2.2.2.2.1)),((EC.decL q26n (EC.encL q26n r0.2.2.2.2.2.1)),(EC.decL q26o (EC.encL q26o r0.2.2.2.2.2.2))))))))))))))))
 (brE (t==4)
 (gdE (EC.isL q26p (EC.encL q26p t_1)) <|
 (gdE (EC.isL q26p (EC.encL q26p b1)) <|
 (gdE (EC.isL q26n (EC.encL q26n b2)) <|
 (gdE (EC.isL q26o (EC.encL q26o b3)) <|
 (Option.bind (q1d6 (EC.decL q26p (EC.encL q26p t_1)) b0 b0_1 b0_2 b0_3 (EC.decL q26p (EC.encL q26p b1)) (EC.decL q26n (EC.encL q26n b2)) (EC.decL q26o (EC.encL q26o b3))) fun r0 =>
 (gdE (EC.isL q26p (EC.encL q26p r0.2.2.2.1)) <|
 (gdE (EC.isL q26n (EC.encL q26n r0.2.2.2.2.1)) <|
 (gdE (EC.isL q26o (EC.encL q26o r0.2.2.2.2.2)) <|
 (some (r0.1,(r0.1,((r0.2.2.1.1,(r0.2.2.1.2.1,(r0.2.2.1.2.2.1,r0.2.2.1.2.2.2))),((EC.decL q26p (EC.encL q26p r0.2.2.2.1)),((EC.decL q26n (EC.encL q26n r0.2.2.2.2.1)),(EC.decL q26o (EC.encL q26o r0.2.2.2.2.2))))))))))))))))
 (gdE (EC.isL q26p (EC.encL q26p b1)) <|
 (gdE (EC.isL q26p (EC.encL q26p t_1)) <|
 (Option.bind (q1ho (EC.decL q26p (EC.encL q26p b1)) t (EC.decL q26p (EC.encL q26p t_1)) t_2 t_3 t_4 t_5) fun r0 =>
 (brE (decide (r0<0))
 none
 (gdE (EC.isL q26p (EC.encL q26p b1)) <|
 (gdE (EC.isL q26n (EC.encL q26n b2)) <|
 (gdE (EC.isL q26o (EC.encL q26o b3)) <|
 (some (((IntKind.wrap .i64 (((BitVec.toNat ((BitVec.ofInt (Go.IntKind.bits Go.IntKind.i64) (Int.fdiv b0_1 (2 ^ (Min.min (Int.toNat r0) (Go.IntKind.bits Go.IntKind.i64))))) &&& (BitVec.ofInt (Go.IntKind.bits Go.IntKind.i64) 1))):Nat):Int))==1),(((IntKind.wrap .i64 (((BitVec.toNat ((BitVec.ofInt (Go.IntKind.bits Go.IntKind.i64) (Int.fdiv b0_1 (2 ^ (Min.min (Int.toNat r0) (Go.IntKind.bits Go.IntKind.i64))))) &&& (BitVec.ofInt (Go.IntKind.bits Go.IntKind.i64) 1))):Nat):Int))==1),((b0,(b0_1,(b0_2,b0_3))),((EC.decL q26p (EC.encL q26p b1)),((EC.decL q26n (EC.encL q26n b2)),(EC.decL q26o (EC.encL q26o b3)))))))))))))))))))
theorem q1j4 {t} {t_1} {t_2} {t_3} {t_4} {t_5} {b0} {b0_1} {b0_2} {b0_3} {b1} {b2} {b3} {r} (h:q1j8 t t_1 t_2 t_3 t_4 t_5 b0 b0_1 b0_2 b0_3 b1 b2 b3=some r):q1j2 t t_1 t_2 t_3 t_4 t_5 b0 b0_1 b0_2 b0_3 b1 b2 b3=some r :=
 qis (fn:=Tryz.f99) (es:=q1ji) (hs:=q1eq) [] (by kernel_rfl) rfl (by kernel_rfl) trivial trivial (by kernel_rfl) h
def q1ip:=sLS [0,2,11,12,13] (q279 (vPtr 0 0) (q279 (vC (cInt .i64)) (q279 (vC (cSl q26r)) (q279 (vC (cInt .i64)) (q27b (vC (cInt .i64))))))) (q279 (q27g (bBox (q279 (vRow 1) (q279 (vC (cInt .i64)) (q279 (vRow 2) (q27b (vRow 3))))))) (q279 (q27g (bRow q26p)) (q279 (q27g (bRow q26n)) (q27b (q27g (bRow q26o)))))) [false,false,false,false] [0,1,2] (by decide) (fun _=>rfl)
def q1io:=sLS [0,2,11,12,13,14] (q279 (vPtr 0 0) (q279 (vC (cInt .i64)) (q279 (vC (cSl q26r)) (q279 (vC (cInt .i64)) (q279 (vC (cInt .i64)) (q27b (vC cBool))))))) (q279 (q27g (bBox (q279 (vRow 1) (q279 (vC (cInt .i64)) (q279 (vRow 2) (q27b (vRow 3))))))) (q279 (q27g (bRow q26p)) (q279 (q27g (bRow q26n)) (q27b (q27g (bRow q26o)))))) [false,false,false,false] [0,1,2] (by decide) (fun _=>rfl)
def q1in:=sLS [6] (q27b (vC cBool)) (q279 (q27g (bBox (q279 (vRow 1) (q279 (vC (cInt .i64)) (q279 (vRow 2) (q27b (vRow 3))))))) (q279 (q27g (bRow q26p)) (q279 (q27g (bRow q26n)) (q27b (q27g (bRow q26o)))))) [false,false,false,false] [0,1,2] (by decide) (fun _=>rfl)
def q1im:=oOr 1 q1in (oAt 2 q1io) (fun x=>(by decide:(2:Nat)≠1))
def q1ij (number:Int) (t11:(List S50)) (t12:Int) (t13:Int) (b0:Nat) (b0_1:Int) (b0_2:Nat) (b0_3:Nat) (b1:(List S48)) (b2:(List Bool)) (b3:(List S45)):Option ((Bool × ((Nat × Int × Nat × Nat) × (List S48) × (List Bool) × (List S45))) ⊕ ((Unit × Int × (List S50) × Int × Int × Bool) × ((Nat × Int × Nat × Nat) × (List S48) × (List Bool) × (List S45)))):=lS Tryz.prog lv X0 74 76 (q270 (cdF Tryz.f74) 2) q1ip q1im (((),number,t11,t12,t13),((b0,b0_1,b0_2,b0_3),b1,b2,b3))
def q1iq (number:Int) (t11:(List S50)) (t12:Int) (t13:Int) (b0:Nat) (b0_1:Int) (b0_2:Nat) (b0_3:Nat) (b1:(List S48)) (b2:(List Bool)) (b3:(List S45)):Option ((Bool × ((Nat × Int × Nat × Nat) × (List S48) × (List Bool) × (List S45))) ⊕ ((Unit × Int × (List S50) × Int × Int × Bool) × ((Nat × Int × Nat × Nat) × (List S48) × (List Bool) × (List S45)))) :=
 (brE (decide (t13<t12))
 (gdE (decide (0≤t13)) <|
 (gdE ((decide ((Int.toNat t13)<(List.length (EC.encL q26r t11))))&&(isE [(K1.int Go.IntKind.i64),(K1.int Go.IntKind.i64),K1.sl,K1.str,(K1.int Go.IntKind.i64),K1.str,(K1.int Go.IntKind.i64),K1.sl,K1.sl,(K1.int Go.IntKind.i64),K1.str,K1.str,(K1.int Go.IntKind.i64)] 0 (List.getD (EC.encL q26r t11) (Int.toNat t13) []))) <|
 (gdE ((decide (0≤number))&&(decide (number<((b0_2:Nat):Int)))) <|
 (gdE ((decide ((Int.toNat number)<(List.length (EC.encL q26n b2))))&&((List.length (List.getD (EC.encL q26n b2) (Int.toNat number) []))==1)) <|
 (brE ((q273 (List.getD (List.getD (EC.encL q26r t11) (Int.toNat t13) []) 0 C.ne))==1)
 (gdE (EC.isL q26p (slOf (List.getD (List.getD (EC.encL q26r t11) (Int.toNat t13) []) 2 C.ne))) <|
 (gdE (EC.isL q26p (EC.encL q26p b1)) <|
 (gdE (EC.isL q26n (List.set (EC.encL q26n b2) (Int.toNat number) (splice (List.getD (EC.encL q26n b2) (Int.toNat number) []) 0 [(C.bool true)]))) <|
 (gdE (EC.isL q26o (EC.encL q26o b3)) <|
 (Option.bind (q1j2 (q273 (List.getD (List.getD (EC.encL q26r t11) (Int.toNat t13) []) 1 C.ne)) (EC.decL q26p (slOf (List.getD (List.getD (EC.encL q26r t11) (Int.toNat t13) []) 2 C.ne))) (q27s (List.getD (List.getD (EC.encL q26r t11) (Int.toNat t13) []) 3 C.ne)) (q273 (List.getD (List.getD (EC.encL q26r t11) (Int.toNat t13) []) 4 C.ne)) (q27s (List.getD (List.getD (EC.encL q26r t11) (Int.toNat t13) []) 5 C.ne)) (q273 (List.getD (List.getD (EC.encL q26r t11) (Int.toNat t13) []) 6 C.ne)) b0 b0_1 b0_2 b0_3 (EC.decL q26p (EC.encL q26p b1)) (EC.decL q26n (List.set (EC.encL q26n b2) (Int.toNat number) (splice (List.getD (EC.encL q26n b2) (Int.toNat number) []) 0 [(C.bool true)]))) (EC.decL q26o (EC.encL q26o b3))) fun r0 =>
 (brE (!r0.1)
 (gdE (EC.isL q26r (slOf (List.getD (List.getD (EC.encL q26r t11) (Int.toNat t13) []) 7 C.ne))) <|
 (Option.bind (qtp (EC.decL q26r (slOf (List.getD (List.getD (EC.encL q26r t11) (Int.toNat t13) []) 7 C.ne)))) fun r1 =>
 (gdE (EC.isL q26r (slOf (List.getD (List.getD (EC.encL q26r t11) (Int.toNat t13) []) 8 C.ne))) <|
 (gdE (EC.isL q26p (EC.encL q26p r0.2.2.2.1)) <|
 (gdE (EC.isL q26n (EC.encL q26n r0.2.2.2.2.1)) <|
 (gdE (EC.isL q26o (EC.encL q26o r0.2.2.2.2.2)) <|
 (Option.bind (q1ig (EC.decL q26r (slOf (List.getD (List.getD (EC.encL q26r t11) (Int.toNat t13) []) 8 C.ne))) (IntKind.wrap .i64 ((IntKind.wrap .i64 (number+1))+r1)) r0.2.2.1.1 r0.2.2.1.2.1 r0.2.2.1.2.2.1 r0.2.2.1.2.2.2 (EC.decL q26p (EC.encL q26p r0.2.2.2.1)) (EC.decL q26n (EC.encL q26n r0.2.2.2.2.1)) (EC.decL q26o (EC.encL q26o r0.2.2.2.2.2))) fun r2 =>
 (brE (!r2.1)
 (gdE (EC.isL q26p (EC.encL q26p r2.2.2.2.1)) <|
 (gdE (EC.isL q26n (EC.encL q26n r2.2.2.2.2.1)) <|
 (gdE (EC.isL q26o (EC.encL q26o r2.2.2.2.2.2)) <|
 (some (.inl (false,((r2.2.2.1.1,(r2.2.2.1.2.1,(r2.2.2.1.2.2.1,r2.2.2.1.2.2.2))),((EC.decL q26p (EC.encL q26p r2.2.2.2.1)),((EC.decL q26n (EC.encL q26n r2.2.2.2.2.1)),(EC.decL q26o (EC.encL q26o r2.2.2.2.2.2)))))))))))
 (gdE (EC.isL q26r (slOf (List.getD (List.getD (EC.encL q26r t11) (Int.toNat t13) []) 7 C.ne))) <|
 (Option.bind (qtp (EC.decL q26r (slOf (List.getD (List.getD (EC.encL q26r t11) (Int.toNat t13) []) 7 C.ne)))) fun r3 =>
 (gdE (EC.isL q26r (slOf (List.getD (List.getD (EC.encL q26r t11) (Int.toNat t13) []) 8 C.ne))) <|
 (Option.bind (qtp (EC.decL q26r (slOf (List.getD (List.getD (EC.encL q26r t11) (Int.toNat t13) []) 8 C.ne)))) fun r4 =>
 (gdE (EC.isL q26r (EC.encL q26r t11)) <|
 (gdE (EC.isL q26p (EC.encL q26p r2.2.2.2.1)) <|
 (gdE (EC.isL q26n (EC.encL q26n r2.2.2.2.2.1)) <|
 (gdE (EC.isL q26o (EC.encL q26o r2.2.2.2.2.2)) <|
 (q1ij (IntKind.wrap .i64 (number+(IntKind.wrap .i64 ((IntKind.wrap .i64 (1+r3))+r4)))) (EC.decL q26r (EC.encL q26r t11)) t12 (IntKind.wrap .i64 (t13+1)) r2.2.2.1.1 r2.2.2.1.2.1 r2.2.2.1.2.2.1 r2.2.2.1.2.2.2 (EC.decL q26p (EC.encL q26p r2.2.2.2.1)) (EC.decL q26n (EC.encL q26n r2.2.2.2.2.1)) (EC.decL q26o (EC.encL q26o r2.2.2.2.2.2)))))))))))))))))))
 (gdE (EC.isL q26r (slOf (List.getD (List.getD (EC.encL q26r t11) (Int.toNat t13) []) 7 C.ne))) <|
 (gdE (EC.isL q26p (EC.encL q26p r0.2.2.2.1)) <|
 (gdE (EC.isL q26n (EC.encL q26n r0.2.2.2.2.1)) <|
 (gdE (EC.isL q26o (EC.encL q26o r0.2.2.2.2.2)) <|
 (Option.bind (q1ig (EC.decL q26r (slOf (List.getD (List.getD (EC.encL q26r t11) (Int.toNat t13) []) 7 C.ne))) (IntKind.wrap .i64 (number+1)) r0.2.2.1.1 r0.2.2.1.2.1 r0.2.2.1.2.2.1 r0.2.2.1.2.2.2 (EC.decL q26p (EC.encL q26p r0.2.2.2.1)) (EC.decL q26n (EC.encL q26n r0.2.2.2.2.1)) (EC.decL q26o (EC.encL q26o r0.2.2.2.2.2))) fun r1 =>
 (brE (!r1.1)
 (gdE (EC.isL q26p (EC.encL q26p r1.2.2.2.1)) <|
 (gdE (EC.isL q26n (EC.encL q26n r1.2.2.2.2.1)) <|
 (gdE (EC.isL q26o (EC.encL q26o r1.2.2.2.2.2)) <|
 (some (.inl (false,((r1.2.2.1.1,(r1.2.2.1.2.1,(r1.2.2.1.2.2.1,r1.2.2.1.2.2.2))),((EC.decL q26p (EC.encL q26p r1.2.2.2.1)),((EC.decL q26n (EC.encL q26n r1.2.2.2.2.1)),(EC.decL q26o (EC.encL q26o r1.2.2.2.2.2)))))))))))
 (gdE (EC.isL q26r (slOf (List.getD (List.getD (EC.encL q26r t11) (Int.toNat t13) []) 7 C.ne))) <|
 (Option.bind (qtp (EC.decL q26r (slOf (List.getD (List.getD (EC.encL q26r t11) (Int.toNat t13) []) 7 C.ne)))) fun r2 =>
 (gdE (EC.isL q26r (slOf (List.getD (List.getD (EC.encL q26r t11) (Int.toNat t13) []) 8 C.ne))) <|
 (Option.bind (qtp (EC.decL q26r (slOf (List.getD (List.getD (EC.encL q26r t11) (Int.toNat t13) []) 8 C.ne)))) fun r3 =>
 (gdE (EC.isL q26r (EC.encL q26r t11)) <|
 (gdE (EC.isL q26p (EC.encL q26p r1.2.2.2.1)) <|
 (gdE (EC.isL q26n (EC.encL q26n r1.2.2.2.2.1)) <|
 (gdE (EC.isL q26o (EC.encL q26o r1.2.2.2.2.2)) <|
 (q1ij (IntKind.wrap .i64 (number+(IntKind.wrap .i64 ((IntKind.wrap .i64 (1+r2))+r3)))) (EC.decL q26r (EC.encL q26r t11)) t12 (IntKind.wrap .i64 (t13+1)) r1.2.2.1.1 r1.2.2.1.2.1 r1.2.2.1.2.2.1 r1.2.2.1.2.2.2 (EC.decL q26p (EC.encL q26p r1.2.2.2.1)) (EC.decL q26n (EC.encL q26n r1.2.2.2.2.1)) (EC.decL q26o (EC.encL q26o r1.2.2.2.2.2)))))))))))))))))))))))
 (brE ((q273 (List.getD (List.getD (EC.encL q26r t11) (Int.toNat t13) []) 0 C.ne))==2)
 (gdE ((((List.all [[(C.int Go.IntKind.i64 (q273 (List.getD (List.getD (EC.encL q26r t11) (Int.toNat t13) []) 9 C.ne))),(C.str ⟨#[]⟩),(C.int Go.IntKind.i64 0)]] (fun (el:(List C))=>((List.length el)==3)))&&(List.all (EC.encL q26o b3) (fun (el:(List C))=>((List.length el)==3))))&&(decide (((((b0_3+(List.length [[(C.int Go.IntKind.i64 (q273 (List.getD (List.getD (EC.encL q26r t11) (Int.toNat t13) []) 9 C.ne))),(C.str ⟨#[]⟩),(C.int Go.IntKind.i64 0)]]))+((b0_3+(List.length [[(C.int Go.IntKind.i64 (q273 (List.getD (List.getD (EC.encL q26r t11) (Int.toNat t13) []) 9 C.ne))),(C.str ⟨#[]⟩),(C.int Go.IntKind.i64 0)]])) / 4))+192)*32)≤281474976710656)))&&(decide ((b0_3+(List.length [[(C.int Go.IntKind.i64 (q273 (List.getD (List.getD (EC.encL q26r t11) (Int.toNat t13) []) 9 C.ne))),(C.str ⟨#[]⟩),(C.int Go.IntKind.i64 0)]]))≤9223372036854775807))) <|
 (gdE (EC.isL q26r (slOf (List.getD (List.getD (EC.encL q26r t11) (Int.toNat t13) []) 7 C.ne))) <|
 (Option.bind (qtp (EC.decL q26r (slOf (List.getD (List.getD (EC.encL q26r t11) (Int.toNat t13) []) 7 C.ne)))) fun r0 =>
 (gdE (EC.isL q26r (slOf (List.getD (List.getD (EC.encL q26r t11) (Int.toNat t13) []) 8 C.ne))) <|
 (Option.bind (qtp (EC.decL q26r (slOf (List.getD (List.getD (EC.encL q26r t11) (Int.toNat t13) []) 8 C.ne)))) fun r1 =>
 (gdE (EC.isL q26r (EC.encL q26r t11)) <|
 (gdE (EC.isL q26p (EC.encL q26p b1)) <|
 (gdE (EC.isL q26n (List.set (EC.encL q26n b2) (Int.toNat number) (splice (List.getD (EC.encL q26n b2) (Int.toNat number) []) 0 [(C.bool true)]))) <|
 (gdE (EC.isL q26o ((EC.encL q26o b3)++[[(C.int Go.IntKind.i64 (q273 (List.getD (List.getD (EC.encL q26r t11) (Int.toNat t13) []) 9 C.ne))),(C.str ⟨#[]⟩),(C.int Go.IntKind.i64 0)]])) <|
 (q1ij (IntKind.wrap .i64 (number+(IntKind.wrap .i64 ((IntKind.wrap .i64 (1+r0))+r1)))) (EC.decL q26r (EC.encL q26r t11)) t12 (IntKind.wrap .i64 (t13+1)) b0 b0_1 b0_2 (b0_3+(List.length [[(C.int Go.IntKind.i64 (q273 (List.getD (List.getD (EC.encL q26r t11) (Int.toNat t13) []) 9 C.ne))),(C.str ⟨#[]⟩),(C.int Go.IntKind.i64 0)]])) (EC.decL q26p (EC.encL q26p b1)) (EC.decL q26n (List.set (EC.encL q26n b2) (Int.toNat number) (splice (List.getD (EC.encL q26n b2) (Int.toNat number) []) 0 [(C.bool true)]))) (EC.decL q26o ((EC.encL q26o b3)++[[(C.int Go.IntKind.i64 (q273 (List.getD (List.getD (EC.encL q26r t11) (Int.toNat t13) []) 9 C.ne))),(C.str ⟨#[]⟩),(C.int Go.IntKind.i64 0)]]))))))))))))
 (brE ((q273 (List.getD (List.getD (EC.encL q26r t11) (Int.toNat t13) []) 0 C.ne))==4)
 (gdE (EC.isL q26p (EC.encL q26p b1)) <|
 (gdE (EC.isL q26n (List.set (EC.encL q26n b2) (Int.toNat number) (splice (List.getD (EC.encL q26n b2) (Int.toNat number) []) 0 [(C.bool true)]))) <|
 (gdE (EC.isL q26o (EC.encL q26o b3)) <|
 (some (.inl (false,((b0,(b0_1,(b0_2,b0_3))),((EC.decL q26p (EC.encL q26p b1)),((EC.decL q26n (List.set (EC.encL q26n b2) (Int.toNat number) (splice (List.getD (EC.encL q26n b2) (Int.toNat number) []) 0 [(C.bool true)]))),(EC.decL q26o (EC.encL q26o b3)))))))))))
 (gdE (EC.isL q26r (slOf (List.getD (List.getD (EC.encL q26r t11) (Int.toNat t13) []) 7 C.ne))) <|
 (Option.bind (qtp (EC.decL q26r (slOf (List.getD (List.getD (EC.encL q26r t11) (Int.toNat t13) []) 7 C.ne)))) fun r0 =>
 (gdE (EC.isL q26r (slOf (List.getD (List.getD (EC.encL q26r t11) (Int.toNat t13) []) 8 C.ne))) <|
 (Option.bind (qtp (EC.decL q26r (slOf (List.getD (List.getD (EC.encL q26r t11) (Int.toNat t13) []) 8 C.ne)))) fun r1 =>
 (gdE (EC.isL q26r (EC.encL q26r t11)) <|
 (gdE (EC.isL q26p (EC.encL q26p b1)) <|
 (gdE (EC.isL q26n (List.set (EC.encL q26n b2) (Int.toNat number) (splice (List.getD (EC.encL q26n b2) (Int.toNat number) []) 0 [(C.bool true)]))) <|
 (gdE (EC.isL q26o (EC.encL q26o b3)) <|
 (q1ij (IntKind.wrap .i64 (number+(IntKind.wrap .i64 ((IntKind.wrap .i64 (1+r0))+r1)))) (EC.decL q26r (EC.encL q26r t11)) t12 (IntKind.wrap .i64 (t13+1)) b0 b0_1 b0_2 b0_3 (EC.decL q26p (EC.encL q26p b1)) (EC.decL q26n (List.set (EC.encL q26n b2) (Int.toNat number) (splice (List.getD (EC.encL q26n b2) (Int.toNat number) []) 0 [(C.bool true)]))) (EC.decL q26o (EC.encL q26o b3))))))))))))))))))
 (gdE (EC.isL q26r (EC.encL q26r t11)) <|
 (gdE (EC.isL q26p (EC.encL q26p b1)) <|
 (gdE (EC.isL q26n (EC.encL q26n b2)) <|
 (gdE (EC.isL q26o (EC.encL q26o b3)) <|
 (some (.inr (((),(number,((EC.decL q26r (EC.encL q26r t11)),(t12,(t13,false))))),((b0,(b0_1,(b0_2,b0_3))),((EC.decL q26p (EC.encL q26p b1)),((EC.decL q26n (EC.encL q26n b2)),(EC.decL q26o (EC.encL q26o b3)))))))))))))
theorem q1il {number} {t11} {t12} {t13} {b0} {b0_1} {b0_2} {b0_3} {b1} {b2} {b3} {r} (h:q1iq number t11 t12 t13 b0 b0_1 b0_2 b0_3 b1 b2 b3=some r):q1ij number t11 t12 t13 b0 b0_1 b0_2 b0_3 b1 b2 b3=some r :=
 qm5 (es:=q1ji) (hs:=q1eq) [] (by kernel_rfl) trivial trivial (by kernel_rfl) h
def q1ik:=q27d Tryz.prog lv X0 2 (q270 (cdF Tryz.f74) 2) q1ip q1im (fun x=>q1ij x.1.2.1 x.1.2.2.1 x.1.2.2.2.1 x.1.2.2.2.2 x.2.1.1 x.2.1.2.1 x.2.1.2.2.1 x.2.1.2.2.2 x.2.2.1 x.2.2.2.1 x.2.2.2.2) (fun _ _ h=>qm4 h)
def q1iu (s:(List S50)) (number:Int) (b0:Nat) (b0_1:Int) (b0_2:Nat) (b0_3:Nat) (b1:(List S48)) (b2:(List Bool)) (b3:(List S45)):Option (Bool × (Bool × ((Nat × Int × Nat × Nat) × (List S48) × (List Bool) × (List S45)))) :=
 (gdE (EC.isL q26r (EC.encL q26r s)) <|
 (gdE (EC.isL q26p (EC.encL q26p b1)) <|
 (gdE (EC.isL q26n (EC.encL q26n b2)) <|
 (gdE (EC.isL q26o (EC.encL q26o b3)) <|
 (Option.bind (q1ij number (EC.decL q26r (EC.encL q26r s)) (List.length (EC.encL q26r s):Int) 0 b0 b0_1 b0_2 b0_3 (EC.decL q26p (EC.encL q26p b1)) (EC.decL q26n (EC.encL q26n b2)) (EC.decL q26o (EC.encL q26o b3))) fun r0 =>
 (Sum.elim (fun r1=>(gdE (EC.isL q26p (EC.encL q26p r1.2.2.1)) <|
 (gdE (EC.isL q26n (EC.encL q26n r1.2.2.2.1)) <|
 (gdE (EC.isL q26o (EC.encL q26o r1.2.2.2.2)) <|
 (some (r1.1,(r1.1,((r1.2.1.1,(r1.2.1.2.1,(r1.2.1.2.2.1,r1.2.1.2.2.2))),((EC.decL q26p (EC.encL q26p r1.2.2.1)),((EC.decL q26n (EC.encL q26n r1.2.2.2.1)),(EC.decL q26o (EC.encL q26o r1.2.2.2.2))))))))))))
 (fun r1=>(gdE (EC.isL q26p (EC.encL q26p r1.2.2.1)) <|
 (gdE (EC.isL q26n (EC.encL q26n r1.2.2.2.1)) <|
 (gdE (EC.isL q26o (EC.encL q26o r1.2.2.2.2)) <|
 (some (true,(true,((r1.2.1.1,(r1.2.1.2.1,(r1.2.1.2.2.1,r1.2.1.2.2.2))),((EC.decL q26p (EC.encL q26p r1.2.2.1)),((EC.decL q26n (EC.encL q26n r1.2.2.2.1)),(EC.decL q26o (EC.encL q26o r1.2.2.2.2)))))))))))) r0))))))
theorem q1ii {s} {number} {b0} {b0_1} {b0_2} {b0_3} {b1} {b2} {b3} {r} (h:q1iu s number b0 b0_1 b0_2 b0_3 b1 b2 b3=some r):q1ig s number b0 b0_1 b0_2 b0_3 b1 b2 b3=some r :=
 qis (fn:=Tryz.f74) (es:=q1ji) (hs:=q1eq) [q1ik] (by kernel_rfl) rfl (by kernel_rfl) ⟨⟨_,rfl,rfl⟩,trivial⟩ trivial (by kernel_rfl) h
def q1gm:=(q27b (vC (cSl q26r)))
def q1h4:=sLS [0,1] (q279 (vC (cSl q26r)) (q27b (vFn 51 (q27b (vPtr 0 0))))) (q27b (q27g (bBox (q27b (vC cBool))))) [false] [0] (by decide) (fun _=>rfl)
def q1gk:=sLS [0,1] (q279 (vRow 0) (q27b (vPtr 1 0))) (q279 (q27g (bRow q26o)) (q27b (q27g (bBox (q27b (vC cBool)))))) [false,false] [1] (by decide) (fun _=>rfl)
def q1gj:SC (Unit × Bool):=sLS [] q27a (q27b (q27g (bBox (q27b (vC cBool))))) [false] [0] (by decide) (fun _=>rfl)
def q1gi:HC (Unit × (Unit × Bool)):=hPair (vTup q27a) q1gj
def q1gf (l:Nat) (b0:(List S45)) (b1:Bool):Option (Unit × (Unit × Bool)):=hS Tryz.prog lv X0 51 q1gk q1gi ((l,()),(b0,b1))
def q1gl (l:Nat) (b0:(List S45)) (b1:Bool):Option (Unit × (Unit × Bool)) :=
 (gdE (EC.isL q26o (EC.encL q26o b0)) <|
 (Option.bind (q1ek (EC.decL q26o (EC.encL q26o b0))) fun r0 =>
 (brE (b1==true)
 (brE (r0==false)
 (gdE (EC.isL q26o (EC.encL q26o b0)) <|
 (Option.bind (qca (EC.decL q26o (EC.encL q26o b0))) fun r1 =>
 (some ((),((),(!r1))))))
 (some ((),((),true))))
 (some ((),((),false))))))
theorem q1gh {l} {b0} {b1} {r} (h:q1gl l b0 b1=some r):q1gf l b0 b1=some r :=
 qis (fn:=Tryz.f51) (es:=q1ji) (hs:=q1eq) [] (by kernel_rfl) rfl (by kernel_rfl) trivial trivial (by kernel_rfl) h
def q1gg:=hentS Tryz.prog lv X0 51 [0,2,0,1,3,1,0,2,1,1,1,2,1] q1gk q1gi (fun x=>q1gf x.1.1 x.2.1 x.2.2) (fun _ _ h=>qir h)
def q1es:=q1gg::q1eq
def q1h0:=sLS [0,1,5,7,8,27,28] (q279 (vC (cSl q26r)) (q279 (vFn 51 (q27b (vPtr 0 0))) (q279 (vPtr 1 0) (q279 (vRow 2) (q279 (vRow 3) (q279 (vC (cInt .i64)) (q27b (vC (cInt .i64))))))))) (q279 (q27g (bBox (q27b (vC cBool)))) (q279 (q27g (bBox (q279 (vC (cInt .i64)) (q27b (vC (cInt .i64)))))) (q279 (q27g (bRow q26p)) (q27b (q27g (bRow q26n)))))) [false,false,false,false] [0] (by decide) (fun _=>rfl)
def q1gz:=sLS [0,1,5,7,8,27,28,29] (q279 (vC (cSl q26r)) (q279 (vFn 51 (q27b (vPtr 0 0))) (q279 (vPtr 1 0) (q279 (vRow 2) (q279 (vRow 3) (q279 (vC (cInt .i64)) (q279 (vC (cInt .i64)) (q27b (vC cBool))))))))) (q279 (q27g (bBox (q27b (vC cBool)))) (q279 (q27g (bBox (q279 (vC (cInt .i64)) (q27b (vC (cInt .i64)))))) (q279 (q27g (bRow q26p)) (q27b (q27g (bRow q26n)))))) [false,false,false,false] [0] (by decide) (fun _=>rfl)
def q1gy:=oAt 2 q1gz
def q1gv (s:(List S50)) (l:Nat) (reached:Nat) (t27:Int) (t28:Int) (b0:Bool) (b1:Int) (b1_1:Int) (b2:(List S48)) (b3:(List Bool)):Option (((List S50) × Unit × Unit × Nat × Nat × Int × Int × Bool) × (Bool × (Int × Int) × (List S48) × (List Bool))):=lS Tryz.prog lv X0 50 48 (q270 (cdF Tryz.f50) 9) q1h0 q1gy ((s,(),(),l,reached,t27,t28),(b0,(b1,b1_1),b2,b3))
def q1h1 (s:(List S50)) (l:Nat) (reached:Nat) (t27:Int) (t28:Int) (b0:Bool) (b1:Int) (b1_1:Int) (b2:(List S48)) (b3:(List Bool)):Option (((List S50) × Unit × Unit × Nat × Nat × Int × Int × Bool) × (Bool × (Int × Int) × (List S48) × (List Bool))) :=
 (brE (decide (t28<t27))
 (gdE (EC.isL q26r (EC.encL q26r s)) <|
 (gdE (EC.isL q26p (EC.encL q26p b2)) <|
 (gdE (EC.isL q26n (EC.encL q26n b3)) <|
 (Option.bind (q1ig (EC.decL q26r (EC.encL q26r s)) 0 l t28 reached 0 (EC.decL q26p (EC.encL q26p b2)) (EC.decL q26n (EC.encL q26n b3)) (EC.decL q26o [])) fun r0 =>
 (gdE (EC.isL q26o (EC.encL q26o r0.2.2.2.2.2)) <|
 (Option.bind (q1gf r0.2.2.1.2.2.2 (EC.decL q26o (EC.encL q26o r0.2.2.2.2.2)) b0) fun r1 =>
 (gdE (EC.isL q26r (EC.encL q26r s)) <|
 (gdE (EC.isL q26p (EC.encL q26p r0.2.2.2.1)) <|
 (gdE (EC.isL q26n (EC.encL q26n r0.2.2.2.2.1)) <|
 (q1gv (EC.decL q26r (EC.encL q26r s)) l reached t27 (IntKind.wrap .i64 (t28+1)) r1.2.2 b1 b1_1 (EC.decL q26p (EC.encL q26p r0.2.2.2.1)) (EC.decL q26n (EC.encL q26n r0.2.2.2.2.1))))))))))))
 (gdE (EC.isL q26r (EC.encL q26r s)) <|
 (gdE (EC.isL q26p (EC.encL q26p b2)) <|
 (gdE (EC.isL q26n (EC.encL q26n b3)) <|
 (some (((EC.decL q26r (EC.encL q26r s)),((),((),(l,(reached,(t27,(t28,false))))))),(b0,((b1,b1_1),((EC.decL q26p (EC.encL q26p b2)),(EC.decL q26n (EC.encL q26n b3)))))))))))
theorem q1gx {s} {l} {reached} {t27} {t28} {b0} {b1} {b1_1} {b2} {b3} {r} (h:q1h1 s l reached t27 t28 b0 b1 b1_1 b2 b3=some r):q1gv s l reached t27 t28 b0 b1 b1_1 b2 b3=some r :=
 qm5 (es:=q1ji) (hs:=q1es) [] (by kernel_rfl) trivial trivial (by kernel_rfl) h
def q1gw:=q27d Tryz.prog lv X0 9 (q270 (cdF Tryz.f50) 9) q1h0 q1gy (fun x=>q1gv x.1.1 x.1.2.2.2.1 x.1.2.2.2.2.1 x.1.2.2.2.2.2.1 x.1.2.2.2.2.2.2 x.2.1 x.2.2.1.1 x.2.2.1.2 x.2.2.2.1 x.2.2.2.2) (fun _ _ h=>qm4 h)
def q1h3:SC ((Nat × (Int × Int)) × ((List Bool) × Bool)):=sLS [0,1] (q279 (vRow 0) (q27b (vAgg (q279 (vC (cInt .i64)) (q27b (vC (cInt .i64))))))) (q279 (q27g (bRow q26n)) (q27b (q27g (bBox (q27b (vC cBool)))))) [false,false] [1] (by decide) (fun _=>rfl)
def q1h2:HC ((Nat × (Int × Int)) × ((Nat × (Int × Int)) × ((List Bool) × Bool))):=hPair (vTup (q279 (vRow 0) (q27b (vAgg (q279 (vC (cInt .i64)) (q27b (vC (cInt .i64)))))))) q1h3
def q1gs (s:(List S50)) (b0:Bool):Option ((Nat × (Int × Int)) × ((Nat × (Int × Int)) × ((List Bool) × Bool))):=hS Tryz.prog lv X0 50 q1h4 q1h2 ((s,()),b0)
def q1h5 (s:(List S50)) (b0:Bool):Option ((Nat × (Int × Int)) × ((Nat × (Int × Int)) × ((List Bool) × Bool))) :=
 (gdE (EC.isL q26r (EC.encL q26r s)) <|
 (Option.bind (qui (EC.decL q26r (EC.encL q26r s))) fun r0 =>
 (Option.bind (q57 r0.1 r0.2) fun r1 =>
 (brE r1
 (some ((0,(r0.1,r0.2)),((0,(r0.1,r0.2)),([],b0))))
 (gdE (EC.isL q26r (EC.encL q26r s)) <|
 (Option.bind (q1i2 0 (EC.decL q26r (EC.encL q26r s)) (EC.decL q26p [])) fun r2 =>
 (brE (decide (((r2.1:Nat):Int) > 10))
 (Option.bind (q5d 17 (-4)) fun r3 =>
 (some ((0,(r3.1,r3.2)),((0,(r3.1,r3.2)),([],b0)))))
 (gdE (EC.isL q26r (EC.encL q26r s)) <|
 (Option.bind (qtp (EC.decL q26r (EC.encL q26r s))) fun r3 =>
 (gdE ((((decide (r3=r3))&&(decide (0≤r3)))&&(decide ((r3*((1:Nat):Int))≤140737488355328)))&&(decide (r3≤9223372036854775807))) <|
 (gdE (EC.isL q26r (EC.encL q26r s)) <|
 (gdE (EC.isL q26p (EC.encL q26p r2.2.2)) <|
 (gdE (EC.isL q26n (List.replicate (Int.toNat r3) [(C.bool false)])) <|
 (Option.bind (q1gv (EC.decL q26r (EC.encL q26r s)) r2.1 (Int.toNat r3) (IntKind.wrap .i64 (1*(2 ^ (Min.min (Int.toNat ((r2.1:Nat):Int)) (Go.IntKind.bits Go.IntKind.i64))))) 0 b0 0 0 (EC.decL q26p (EC.encL q26p r2.2.2)) (EC.decL q26n (List.replicate (Int.toNat r3) [(C.bool false)]))) fun r4 =>
 (Option.bind q6e fun r5 =>
 (gdE (EC.isL q26n (EC.encL q26n r4.2.2.2.2)) <|
 (some ((r4.1.2.2.2.2.1,(r5.1,r5.2)),((r4.1.2.2.2.2.1,(r5.1,r5.2)),((EC.decL q26n (EC.encL q26n r4.2.2.2.2)),r4.2.1))))))))))))))))))))
theorem q1gu {s} {b0} {r} (h:q1h5 s b0=some r):q1gs s b0=some r :=
 qis (fn:=Tryz.f50) (es:=q1ji) (hs:=q1es) [q1gw] (by kernel_rfl) rfl (by kernel_rfl) ⟨⟨_,rfl,rfl⟩,trivial⟩ trivial (by kernel_rfl) h
def q1gt:=hentS Tryz.prog lv X0 50 [0,1,4,1,6,51,1,3,0,0,1,1,1,2,0] q1h4 q1h2 (fun x=>q1gs x.1.1 x.2) (fun _ _ h=>qir h)
def q1et:=q1gt::q1es
def q1gn:Cod (V × List B) (Bool × (Int × Int)):=(cFstU (cPair (vTup (q279 (vC cBool) (q27b (vAgg (q279 (vC (cInt .i64)) (q27b (vC (cInt .i64)))))))) q27a))
def q1gq (s:(List S50)):Option (Bool × (Int × Int)):=fS Tryz.prog lv X0 32 q1gm q1gn s
def q1gr (s:(List S50)):Option (Bool × (Int × Int)) :=
 (gdE (EC.isL q26r (EC.encL q26r s)) <|
 (Option.bind (q1gs (EC.decL q26r (EC.encL q26r s)) true) fun r0 =>
 (brE (r0.2.2.2==true)
 (Option.bind (q57 r0.1.2.1 r0.1.2.2) fun r1 =>
 (some ((!r1),(r0.1.2.1,r0.1.2.2))))
 (some (false,(r0.1.2.1,r0.1.2.2))))))
theorem q1gp {s} {r} (h:q1gr s=some r):q1gq s=some r :=
 qf2 (es:=q1ji) (hs:=q1et) [] Tryz.func32 rfl (by kernel_rfl) rfl (by kernel_rfl) (by kernel_rfl) trivial trivial (by kernel_rfl) h
def q1go:=entS Tryz.prog lv X0 32 [] q1gm q1gn (fun x=>q1gq x) (fun _ _ h=>qf1 h)
def q1jk:=q1go::q1ji
end
end Go.Proofs.YtokahibbkdbndaaGreatDoor
