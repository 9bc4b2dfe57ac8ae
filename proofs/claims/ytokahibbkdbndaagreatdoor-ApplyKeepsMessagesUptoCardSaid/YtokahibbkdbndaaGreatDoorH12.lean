/- Functions of the program as plain functions: made by program from the machine. -/
import Derived.Test.YtokahibbkdbndaaGreatDoorZ36
namespace Go.Proofs.YtokahibbkdbndaaGreatDoor
open Go.RowKit
set_option maxRecDepth 100000
noncomputable section
def q24z:=(q279 (vC (cSl q26v)) (q27b (vC cStr)))
def q259:=sLS [0,1,7,8] (q279 (vC (cSl q26v)) (q279 (vC cStr) (q279 (vC (cInt .i64)) (q27b (vC (cInt .i64)))))) q27a [] [] (by decide) (fun _=>rfl)
def q258:=sLS [0,1,7,8,9] (q279 (vC (cSl q26v)) (q279 (vC cStr) (q279 (vC (cInt .i64)) (q279 (vC (cInt .i64)) (q27b (vC cBool)))))) q27a [] [] (by decide) (fun _=>rfl)
def q257:=sLS [4] (q27b (vC (cInt .i64))) q27a [] [] (by decide) (fun _=>rfl)
def q256:=oOr 1 q257 (oAt 2 q258) (fun x=>(by decide:(2:Nat)≠1))
def q253 (s:(List ByteArray)) (v:ByteArray) (t7:Int) (t8:Int):Option ((Int × Unit) ⊕ (((List ByteArray) × ByteArray × Int × Int × Bool) × Unit)):=lS Tryz.prog lv X0 100 19 (q270 (cdF Tryz.f100) 2) q259 q256 ((s,v,t7,t8),())
def q25a (s:(List ByteArray)) (v:ByteArray) (t7:Int) (t8:Int):Option ((Int × Unit) ⊕ (((List ByteArray) × ByteArray × Int × Int × Bool) × Unit)) :=
 (brE (decide (t8<t7))
 (gdE (decide (0≤t8)) <|
 (gdE ((decide ((Int.toNat t8)<(List.length (EC.encL q26v s))))&&(isE [K1.str] 0 (List.getD (EC.encL q26v s) (Int.toNat t8) []))) <|
 (brE ((ByteArray.toList v)==(ByteArray.toList (q27s (List.getD (List.getD (EC.encL q26v s) (Int.toNat t8) []) 0 C.ne))))
 (some (.inl (t8,())))
 (gdE (EC.isL q26v (EC.encL q26v s)) <|
 (q253 (EC.decL q26v (EC.encL q26v s)) v t7 (IntKind.wrap .i64 (t8+1)))))))
 (gdE (EC.isL q26v (EC.encL q26v s)) <|
 (some (.inr (((EC.decL q26v (EC.encL q26v s)),(v,(t7,(t8,false)))),())))))
theorem q255 {s} {v} {t7} {t8} {r} (h:q25a s v t7 t8=some r):q253 s v t7 t8=some r :=
 qm5 (es:=q1jk) (hs:=q1et) [] (by kernel_rfl) trivial trivial (by kernel_rfl) h
def q254:=q27d Tryz.prog lv X0 2 (q270 (cdF Tryz.f100) 2) q259 q256 (fun x=>q253 x.1.1 x.1.2.1 x.1.2.2.1 x.1.2.2.2) (fun _ _ h=>qm4 h)
def q250:Cod (V × List B) Int:=(cFstU (cPair (vC (cInt .i64)) q27a))
def q25b (s:(List ByteArray)) (v:ByteArray):Option Int:=fS Tryz.prog lv X0 100 q24z q250 (s,v)
def q25c (s:(List ByteArray)) (v:ByteArray):Option Int :=
 (gdE (EC.isL q26v (EC.encL q26v s)) <|
 (Option.bind (q253 (EC.decL q26v (EC.encL q26v s)) v (List.length (EC.encL q26v s):Int) 0) fun r0 =>
 (Sum.elim (fun r1=>(some r1.1))
 (fun r1=>(some (-1:Int))) r0)))
theorem q252 {s} {v} {r} (h:q25c s v=some r):q25b s v=some r :=
 qf2 (es:=q1jk) (hs:=q1et) [q254] Tryz.func100 rfl (by kernel_rfl) rfl (by kernel_rfl) (by kernel_rfl) ⟨⟨_,rfl,rfl⟩,trivial⟩ trivial (by kernel_rfl) h
def q251:=entS Tryz.prog lv X0 100 [] q24z q250 (fun x=>q25b x.1 x.2) (fun _ _ h=>qf1 h)
def q25f:=q251::q1jk
def q24t:=(q279 (vC (cSl q26v)) (q27b (vC cStr)))
def q24u:Cod (V × List B) Bool:=(cFstU (cPair (vC cBool) q27a))
def q24x (s:(List ByteArray)) (v:ByteArray):Option Bool:=fS Tryz.prog lv X0 77 q24t q24u (s,v)
def q24y (s:(List ByteArray)) (v:ByteArray):Option Bool :=
 (gdE (EC.isL q26v (EC.encL q26v s)) <|
 (Option.bind (q25b (EC.decL q26v (EC.encL q26v s)) v) fun r0 =>
 (some (decide (r0 ≥ 0)))))
theorem q24w {s} {v} {r} (h:q24y s v=some r):q24x s v=some r :=
 qf2 (es:=q25f) (hs:=q1et) [] Tryz.func77 rfl (by kernel_rfl) rfl (by kernel_rfl) (by kernel_rfl) trivial trivial (by kernel_rfl) h
def q24v:=entS Tryz.prog lv X0 77 [] q24t q24u (fun x=>q24x x.1 x.2) (fun _ _ h=>qf1 h)
def q25e:=q24v::q25f
def q22w:=(q27b (vC (cSl q26o)))
def q23d:=sLS [0,2,3,14,15,16] (q279 (vC (cSl q26o)) (q279 (vPtr 0 0) (q279 (vPtr 1 0) (q279 (vC (cSl q26o)) (q279 (vC (cInt .i64)) (q27b (vC (cInt .i64)))))))) (q279 (q27g (bBox (q279 (vRow 2) (q279 (vRow 3) (q279 (vRow 4) (q279 (vRow 5) (q27b (vC (cInt .i64))))))))) (q279 (q27g (bBox (q279 (vC (cInt .i64)) (q27b (vC (cInt .i64)))))) (q279 (q27g (bRow q26v)) (q279 (q27g (bRow q26v)) (q279 (q27g (bRow q26v)) (q27b (q27g (bRow q26v)))))))) [false,false,false,false,false,false] [] (by decide) (fun _=>rfl)
def q23c:=sLS [0,2,3,14,15,16,17] (q279 (vC (cSl q26o)) (q279 (vPtr 0 0) (q279 (vPtr 1 0) (q279 (vC (cSl q26o)) (q279 (vC (cInt .i64)) (q279 (vC (cInt .i64)) (q27b (vC cBool)))))))) (q279 (q27g (bBox (q279 (vRow 2) (q279 (vRow 3) (q279 (vRow 4) (q279 (vRow 5) (q27b (vC (cInt .i64))))))))) (q279 (q27g (bBox (q279 (vC (cInt .i64)) (q27b (vC (cInt .i64)))))) (q279 (q27g (bRow q26v)) (q279 (q27g (bRow q26v)) (q279 (q27g (bRow q26v)) (q27b (q27g (bRow q26v)))))))) [false,false,false,false,false,false] [] (by decide) (fun _=>rfl)
def q23b:=sLS [2,3] (q279 (vPtr 0 0) (q27b (vPtr 1 0))) (q279 (q27g (bBox (q279 (vRow 2) (q279 (vRow 3) (q279 (vRow 4) (q279 (vRow 5) (q27b (vC (cInt .i64))))))))) (q279 (q27g (bBox (q279 (vC (cInt .i64)) (q27b (vC (cInt .i64)))))) (q279 (q27g (bRow q26v)) (q279 (q27g (bRow q26v)) (q279 (q27g (bRow q26v)) (q27b (q27g (bRow q26v)))))))) [false,false,false,false,false,false] [] (by decide) (fun _=>rfl)
def q23a:=oOr 1 q23b (oAt 2 q23c) (fun x=>(by decide:(2:Nat)≠1))
def q237 (l:(List S45)) (t14:(List S45)) (t15:Int) (t16:Int) (b0:Nat) (b0_1:Nat) (b0_2:Nat) (b0_3:Nat) (b0_4:Int) (b1:Int) (b1_1:Int) (b2:(List ByteArray)) (b3:(List ByteArray)) (b4:(List ByteArray)) (b5:(List ByteArray)):Option (((Unit × Unit) × ((Nat × Nat × Nat × Nat × Int) × (Int × Int) × (List ByteArray) × (List ByteArray) × (List ByteArray) × (List ByteArray))) ⊕ (((List S45) × Unit × Unit × (List S45) × Int × Int × Bool) × ((Nat × Nat × Nat × Nat × Int) × (Int × Int) × (List ByteArray) × (List ByteArray) × (List ByteArray) × (List ByteArray)))):=lS Tryz.prog lv X0 36 106 (q270 (cdF Tryz.f36) 4) q23d q23a ((l,(),(),t14,t15,t16),((b0,b0_1,b0_2,b0_3,b0_4),(b1,b1_1),b2,b3,b4,b5))
def q23e (l:(List S45)) (t14:(List S45)) (t15:Int) (t16:Int) (b0:Nat) (b0_1:Nat) (b0_2:Nat) (b0_3:Nat) (b0_4:Int) (b1:Int) (b1_1:Int) (b2:(List ByteArray)) (b3:(List ByteArray)) (b4:(List ByteArray)) (b5:(List ByteArray)):Option (((Unit × Unit) × ((Nat × Nat × Nat × Nat × Int) × (Int × Int) × (List ByteArray) × (List ByteArray) × (List ByteArray) × (List ByteArray))) ⊕ (((List S45) × Unit × Unit × (List S45) × Int × Int × Bool) × ((Nat × Nat × Nat × Nat × Int) × (Int × Int) × (List ByteArray) × (List ByteArray) × (List ByteArray) × (List ByteArray)))) :=
 (brE (decide (t16<t15))
 (gdE (decide (0≤t16)) <|
 (gdE ((decide ((Int.toNat t16)<(List.length (EC.encL q26o t14))))&&(isE [(K1.int Go.IntKind.i64),K1.str,(K1.int Go.IntKind.i64)] 0 (List.getD (EC.encL q26o t14) (Int.toNat t16) []))) <|
 (brE (decide ((((ByteArray.size (q27s (List.getD (List.getD (EC.encL q26o t14) (Int.toNat t16) []) 1 C.ne))):Nat):Int) > 4000))
 (Option.bind (q5d 1 t16) fun r0 =>
 (some (.inl (((),()),((0,(0,(0,(0,0)))),((r0.1,r0.2),((EC.decL q26v []),((EC.decL q26v []),((EC.decL q26v []),(EC.decL q26v []))))))))))
 (brE ((decide ((q273 (List.getD (List.getD (EC.encL q26o t14) (Int.toNat t16) []) 0 C.ne))<1))==false)
 (brE (decide ((q273 (List.getD (List.getD (EC.encL q26o t14) (Int.toNat t16) []) 0 C.ne)) > 7))
 (Option.bind (q5d 4 t16) fun r0 =>
 (some (.inl (((),()),((0,(0,(0,(0,0)))),((r0.1,r0.2),((EC.decL q26v []),((EC.decL q26v []),((EC.decL q26v []),(EC.decL q26v []))))))))))
 (brE (((q273 (List.getD (List.getD (EC.encL q26o t14) (Int.toNat t16) []) 0 C.ne))==6)==true)
 (brE ((decide ((q273 (List.getD (List.getD (EC.encL q26o t14) (Int.toNat t16) []) 2 C.ne))<0))==false)
 (brE (decide ((q273 (List.getD (List.getD (EC.encL q26o t14) (Int.toNat t16) []) 2 C.ne)) > 63))
 (Option.bind (q5d 3 t16) fun r0 =>
 (some (.inl (((),()),((0,(0,(0,(0,0)))),((r0.1,r0.2),((EC.decL q26v []),((EC.decL q26v []),((EC.decL q26v []),(EC.decL q26v []))))))))))
 (gdE (EC.isL q26o (EC.encL q26o l)) <|
 (gdE (EC.isL q26o (EC.encL q26o t14)) <|
 (gdE (EC.isL q26v (EC.encL q26v b2)) <|
 (gdE (EC.isL q26v (EC.encL q26v b3)) <|
 (gdE (EC.isL q26v (EC.encL q26v b4)) <|
 (gdE (EC.isL q26v (EC.encL q26v b5)) <|
 (q237 (EC.decL q26o (EC.encL q26o l)) (EC.decL q26o (EC.encL q26o t14)) t15 (IntKind.wrap .i64 (t16+1)) b0 b0_1 b0_2 b0_3 b0_4 b1 b1_1 (EC.decL q26v (EC.encL q26v b2)) (EC.decL q26v (EC.encL q26v b3)) (EC.decL q26v (EC.encL q26v b4)) (EC.decL q26v (EC.encL q26v b5))))))))))
 (Option.bind (q5d 3 t16) fun r0 =>
 (some (.inl (((),()),((0,(0,(0,(0,0)))),((r0.1,r0.2),((EC.decL q26v []),((EC.decL q26v []),((EC.decL q26v []),(EC.decL q26v [])))))))))))
 (gdE (EC.isL q26o (EC.encL q26o l)) <|
 (gdE (EC.isL q26o (EC.encL q26o t14)) <|
 (gdE (EC.isL q26v (EC.encL q26v b2)) <|
 (gdE (EC.isL q26v (EC.encL q26v b3)) <|
 (gdE (EC.isL q26v (EC.encL q26v b4)) <|
 (gdE (EC.isL q26v (EC.encL q26v b5)) <|
 (q237 (EC.decL q26o (EC.encL q26o l)) (EC.decL q26o (EC.encL q26o t14)) t15 (IntKind.wrap .i64 (t16+1)) b0 b0_1 b0_2 b0_3 b0_4 b1 b1_1 (EC.decL q26v (EC.encL q26v b2)) (EC.decL q26v (EC.encL q26v b3)) (EC.decL q26v (EC.encL q26v b4)) (EC.decL q26v (EC.encL q26v b5)))))))))))
 (Option.bind (q5d 4 t16) fun r0 =>
 (some (.inl (((),()),((0,(0,(0,(0,0)))),((r0.1,r0.2),((EC.decL q26v []),((EC.decL q26v []),((EC.decL q26v []),(EC.decL q26v []))))))))))))))
 (gdE (EC.isL q26o (EC.encL q26o l)) <|
 (gdE (EC.isL q26o (EC.encL q26o t14)) <|
 (gdE (EC.isL q26v (EC.encL q26v b2)) <|
 (gdE (EC.isL q26v (EC.encL q26v b3)) <|
 (gdE (EC.isL q26v (EC.encL q26v b4)) <|
 (gdE (EC.isL q26v (EC.encL q26v b5)) <|
 (some (.inr (((EC.decL q26o (EC.encL q26o l)),((),((),((EC.decL q26o (EC.encL q26o t14)),(t15,(t16,false)))))),((b0,(b0_1,(b0_2,(b0_3,b0_4)))),((b1,b1_1),((EC.decL q26v (EC.encL q26v b2)),((EC.decL q26v (EC.encL q26v b3)),((EC.decL q26v (EC.encL q26v b4)),(EC.decL q26v (EC.encL q26v b5)))))))))))))))))
theorem q239 {l} {t14} {t15} {t16} {b0} {b0_1} {b0_2} {b0_3} {b0_4} {b1} {b1_1} {b2} {b3} {b4} {b5} {r} (h:q23e l t14 t15 t16 b0 b0_1 b0_2 b0_3 b0_4 b1 b1_1 b2 b3 b4 b5=some r):q237 l t14 t15 t16 b0 b0_1 b0_2 b0_3 b0_4 b1 b1_1 b2 b3 b4 b5=some r :=
 qm5 (es:=q25e) (hs:=q1et) [] (by kernel_rfl) trivial trivial (by kernel_rfl) h
def q238:=q27d Tryz.prog lv X0 4 (q270 (cdF Tryz.f36) 4) q23d q23a (fun x=>q237 x.1.1 x.1.2.2.2.1 x.1.2.2.2.2.1 x.1.2.2.2.2.2 x.2.1.1 x.2.1.2.1 x.2.1.2.2.1 x.2.1.2.2.2.1 x.2.1.2.2.2.2 x.2.2.1.1 x.2.2.1.2 x.2.2.2.1 x.2.2.2.2.1 x.2.2.2.2.2.1 x.2.2.2.2.2.2) (fun _ _ h=>qm4 h)
def q23m:=sLS [0,1] (q279 (vPtr 0 0) (q27b (vC cStr))) (q279 (q27g (bBox (q279 (vRow 1) (q279 (vRow 2) (q279 (vRow 3) (q279 (vRow 4) (q27b (vC (cInt .i64))))))))) (q279 (q27g (bRow q26v)) (q279 (q27g (bRow q26v)) (q279 (q27g (bRow q26v)) (q27b (q27g (bRow q26v))))))) [false,false,false,false,false] [0] (by decide) (fun _=>rfl)
def q23l:SC (Unit × ((Nat × Nat × Nat × Nat × Int) × (List ByteArray) × (List ByteArray) × (List ByteArray) × (List ByteArray))):=sLS [] q27a (q279 (q27g (bBox (q279 (vRow 1) (q279 (vRow 2) (q279 (vRow 3) (q279 (vRow 4) (q27b (vC (cInt .i64))))))))) (q279 (q27g (bRow q26v)) (q279 (q27g (bRow q26v)) (q279 (q27g (bRow q26v)) (q27b (q27g (bRow q26v))))))) [false,false,false,false,false] [0] (by decide) (fun _=>rfl)
def q23k:HC (Unit × (Unit × ((Nat × Nat × Nat × Nat × Int) × (List ByteArray) × (List ByteArray) × (List ByteArray) × (List ByteArray)))):=hPair (vTup q27a) q23l
def q23h (s:ByteArray) (b0:Nat) (b0_1:Nat) (b0_2:Nat) (b0_3:Nat) (b0_4:Int) (b1:(List ByteArray)) (b2:(List ByteArray)) (b3:(List ByteArray)) (b4:(List ByteArray)):Option (Unit × (Unit × ((Nat × Nat × Nat × Nat × Int) × (List ByteArray) × (List ByteArray) × (List ByteArray) × (List ByteArray)))):=hS Tryz.prog lv X0 58 q23m q23k (((),s),((b0,b0_1,b0_2,b0_3,b0_4),b1,b2,b3,b4))
def q23n (s:ByteArray) (b0:Nat) (b0_1:Nat) (b0_2:Nat) (b0_3:Nat) (b0_4:Int) (b1:(List ByteArray)) (b2:(List ByteArray)) (b3:(List ByteArray)) (b4:(List ByteArray)):Option (Unit × (Unit × ((Nat × Nat × Nat × Nat × Int) × (List ByteArray) × (List ByteArray) × (List ByteArray) × (List ByteArray)))) :=
 (gdE (EC.isL q26v (EC.encL q26v b1)) <|
 (Option.bind (q24x (EC.decL q26v (EC.encL q26v b1)) s) fun r0 =>
 (brE (!r0)
 (gdE ((((List.all [[(C.str s)]] (fun (el:(List C))=>((List.length el)==1)))&&(List.all (EC.encL q26v b1) (fun (el:(List C))=>((List.length el)==1))))&&(decide (((((b0+(List.length [[(C.str s)]]))+((b0+(List.length [[(C.str s)]])) / 4))+192)*16)≤281474976710656)))&&(decide ((b0+(List.length [[(C.str s)]]))≤9223372036854775807))) <|
 (gdE (EC.isL q26v ((EC.encL q26v b1)++[[(C.str s)]])) <|
 (gdE (EC.isL q26v (EC.encL q26v b2)) <|
 (gdE (EC.isL q26v (EC.encL q26v b3)) <|
 (gdE (EC.isL q26v (EC.encL q26v b4)) <|
 (some ((),((),(((b0+(List.length [[(C.str s)]])),(b0_1,(b0_2,(b0_3,b0_4)))),((EC.decL q26v ((EC.encL q26v b1)++[[(C.str s)]])),((EC.decL q26v (EC.encL q26v b2)),((EC.decL q26v (EC.encL q26v b3)),(EC.decL q26v (EC.encL q26v b4))))))))))))))
 (gdE (EC.isL q26v (EC.encL q26v b1)) <|
 (gdE (EC.isL q26v (EC.encL q26v b2)) <|
 (gdE (EC.isL q26v (EC.encL q26v b3)) <|
 (gdE (EC.isL q26v (EC.encL q26v b4)) <|
 (some ((),((),((b0,(b0_1,(b0_2,(b0_3,b0_4)))),((EC.decL q26v (EC.encL q26v b1)),((EC.decL q26v (EC.encL q26v b2)),((EC.decL q26v (EC.encL q26v b3)),(EC.decL q26v (EC.encL q26v b4))))))))))))))))
theorem q23j {s} {b0} {b0_1} {b0_2} {b0_3} {b0_4} {b1} {b2} {b3} {b4} {r} (h:q23n s b0 b0_1 b0_2 b0_3 b0_4 b1 b2 b3 b4=some r):q23h s b0 b0_1 b0_2 b0_3 b0_4 b1 b2 b3 b4=some r :=
 qis (fn:=Tryz.f58) (es:=q25e) (hs:=q1et) [] (by kernel_rfl) rfl (by kernel_rfl) trivial trivial (by kernel_rfl) h
def q23i:=hentS Tryz.prog lv X0 58 [0,3,0,0,1,1,3,1,5,2,1,2,2,2,3,2,4,1,1,2,2,2,2,0] q23m q23k (fun x=>q23h x.1.2 x.2.1.1 x.2.1.2.1 x.2.1.2.2.1 x.2.1.2.2.2.1 x.2.1.2.2.2.2 x.2.2.1 x.2.2.2.1 x.2.2.2.2.1 x.2.2.2.2.2) (fun _ _ h=>qir h)
def q24d:=q23i::q1et
def q23t:=sLS [0,1] (q279 (vPtr 0 1) (q27b (vC cStr))) (q279 (q27g (bBox (q279 (vRow 1) (q279 (vRow 2) (q279 (vRow 3) (q279 (vRow 4) (q27b (vC (cInt .i64))))))))) (q279 (q27g (bRow q26v)) (q279 (q27g (bRow q26v)) (q279 (q27g (bRow q26v)) (q27b (q27g (bRow q26v))))))) [false,false,false,false,false] [0] (by decide) (fun _=>rfl)
def q23s:SC (Unit × ((Nat × Nat × Nat × Nat × Int) × (List ByteArray) × (List ByteArray) × (List ByteArray) × (List ByteArray))):=sLS [] q27a (q279 (q27g (bBox (q279 (vRow 1) (q279 (vRow 2) (q279 (vRow 3) (q279 (vRow 4) (q27b (vC (cInt .i64))))))))) (q279 (q27g (bRow q26v)) (q279 (q27g (bRow q26v)) (q279 (q27g (bRow q26v)) (q27b (q27g (bRow q26v))))))) [false,false,false,false,false] [0] (by decide) (fun _=>rfl)
def q23r:HC (Unit × (Unit × ((Nat × Nat × Nat × Nat × Int) × (List ByteArray) × (List ByteArray) × (List ByteArray) × (List ByteArray)))):=hPair (vTup q27a) q23s
def q23o (s:ByteArray) (b0:Nat) (b0_1:Nat) (b0_2:Nat) (b0_3:Nat) (b0_4:Int) (b1:(List ByteArray)) (b2:(List ByteArray)) (b3:(List ByteArray)) (b4:(List ByteArray)):Option (Unit × (Unit × ((Nat × Nat × Nat × Nat × Int) × (List ByteArray) × (List ByteArray) × (List ByteArray) × (List ByteArray)))):=hS Tryz.prog lv X0 58 q23t q23r (((),s),((b0,b0_1,b0_2,b0_3,b0_4),b1,b2,b3,b4))
def q23u (s:ByteArray) (b0:Nat) (b0_1:Nat) (b0_2:Nat) (b0_3:Nat) (b0_4:Int) (b1:(List ByteArray)) (b2:(List ByteArray)) (b3:(List ByteArray)) (b4:(List ByteArray)):Option (Unit × (Unit × ((Nat × Nat × Nat × Nat × Int) × (List ByteArray) × (List ByteArray) × (List ByteArray) × (List ByteArray)))) :=
 (gdE (EC.isL q26v (EC.encL q26v b2)) <|
 (Option.bind (q24x (EC.decL q26v (EC.encL q26v b2)) s) fun r0 =>
 (brE (!r0)
 (gdE ((((List.all [[(C.str s)]] (fun (el:(List C))=>((List.length el)==1)))&&(List.all (EC.encL q26v b2) (fun (el:(List C))=>((List.length el)==1))))&&(decide (((((b0_1+(List.length [[(C.str s)]]))+((b0_1+(List.length [[(C.str s)]])) / 4))+192)*16)≤281474976710656)))&&(decide ((b0_1+(List.length [[(C.str s)]]))≤9223372036854775807))) <|
 (gdE (EC.isL q26v (EC.encL q26v b1)) <|
 (gdE (EC.isL q26v ((EC.encL q26v b2)++[[(C.str s)]])) <|
 (gdE (EC.isL q26v (EC.encL q26v b3)) <|
 (gdE (EC.isL q26v (EC.encL q26v b4)) <|
 (some ((),((),((b0,((b0_1+(List.length [[(C.str s)]])),(b0_2,(b0_3,b0_4)))),((EC.decL q26v (EC.encL q26v b1)),((EC.decL q26v ((EC.encL q26v b2)++[[(C.str s)]])),((EC.decL q26v (EC.encL q26v b3)),(EC.decL q26v (EC.encL q26v b4))))))))))))))
 (gdE (EC.isL q26v (EC.encL q26v b1)) <|
 (gdE (EC.isL q26v (EC.encL q26v b2)) <|
 (gdE (EC.isL q26v (EC.encL q26v b3)) <|
 (gdE (EC.isL q26v (EC.encL q26v b4)) <|
 (some ((),((),((b0,(b0_1,(b0_2,(b0_3,b0_4)))),((EC.decL q26v (EC.encL q26v b1)),((EC.decL q26v (EC.encL q26v b2)),((EC.decL q26v (EC.encL q26v b3)),(EC.decL q26v (EC.encL q26v b4))))))))))))))))
theorem q23q {s} {b0} {b0_1} {b0_2} {b0_3} {b0_4} {b1} {b2} {b3} {b4} {r} (h:q23u s b0 b0_1 b0_2 b0_3 b0_4 b1 b2 b3 b4=some r):q23o s b0 b0_1 b0_2 b0_3 b0_4 b1 b2 b3 b4=some r :=
 qis (fn:=Tryz.f58) (es:=q25e) (hs:=q24d) [] (by kernel_rfl) rfl (by kernel_rfl) trivial trivial (by kernel_rfl) h
def q23p:=hentS Tryz.prog lv X0 58 [0,3,0,1,1,1,3,1,5,2,1,2,2,2,3,2,4,1,1,2,2,2,2,0] q23t q23r (fun x=>q23o x.1.2 x.2.1.1 x.2.1.2.1 x.2.1.2.2.1 x.2.1.2.2.2.1 x.2.1.2.2.2.2 x.2.2.1 x.2.2.2.1 x.2.2.2.2.1 x.2.2.2.2.2) (fun _ _ h=>qir h)
def q24e:=q23p::q24d
def q240:=sLS [0,1] (q279 (vPtr 0 2) (q27b (vC cStr))) (q279 (q27g (bBox (q279 (vRow 1) (q279 (vRow 2) (q279 (vRow 3) (q279 (vRow 4) (q27b (vC (cInt .i64))))))))) (q279 (q27g (bRow q26v)) (q279 (q27g (bRow q26v)) (q279 (q27g (bRow q26v)) (q27b (q27g (bRow q26v))))))) [false,false,false,false,false] [0] (by decide) (fun _=>rfl)
def q23z:SC (Unit × ((Nat × Nat × Nat × Nat × Int) × (List ByteArray) × (List ByteArray) × (List ByteArray) × (List ByteArray))):=sLS [] q27a (q279 (q27g (bBox (q279 (vRow 1) (q279 (vRow 2) (q279 (vRow 3) (q279 (vRow 4) (q27b (vC (cInt .i64))))))))) (q279 (q27g (bRow q26v)) (q279 (q27g (bRow q26v)) (q279 (q27g (bRow q26v)) (q27b (q27g (bRow q26v))))))) [false,false,false,false,false] [0] (by decide) (fun _=>rfl)
def q23y:HC (Unit × (Unit × ((Nat × Nat × Nat × Nat × Int) × (List ByteArray) × (List ByteArray) × (List ByteArray) × (List ByteArray)))):=hPair (vTup q27a) q23z
def q23v (s:ByteArray) (b0:Nat) (b0_1:Nat) (b0_2:Nat) (b0_3:Nat) (b0_4:Int) (b1:(List ByteArray)) (b2:(List ByteArray)) (b3:(List ByteArray)) (b4:(List ByteArray)):Option (Unit × (Unit × ((Nat × Nat × Nat × Nat × Int) × (List ByteArray) × (List ByteArray) × (List ByteArray) × (List ByteArray)))):=hS Tryz.prog lv X0 58 q240 q23y (((),s),((b0,b0_1,b0_2,b0_3,b0_4),b1,b2,b3,b4))
def q241 (s:ByteArray) (b0:Nat) (b0_1:Nat) (b0_2:Nat) (b0_3:Nat) (b0_4:Int) (b1:(List ByteArray)) (b2:(List ByteArray)) (b3:(List ByteArray)) (b4:(List ByteArray)):Option (Unit × (Unit × ((Nat × Nat × Nat × Nat × Int) × (List ByteArray) × (List ByteArray) × (List ByteArray) × (List ByteArray)))) :=
 (gdE (EC.isL q26v (EC.encL q26v b3)) <|
 (Option.bind (q24x (EC.decL q26v (EC.encL q26v b3)) s) fun r0 =>
 (brE (!r0)
 (gdE ((((List.all [[(C.str s)]] (fun (el:(List C))=>((List.length el)==1)))&&(List.all (EC.encL q26v b3) (fun (el:(List C))=>((List.length el)==1))))&&(decide (((((b0_2+(List.length [[(C.str s)]]))+((b0_2+(List.length [[(C.str s)]])) / 4))+192)*16)≤281474976710656)))&&(decide ((b0_2+(List.length [[(C.str s)]]))≤9223372036854775807))) <|
 (gdE (EC.isL q26v (EC.encL q26v b1)) <|
 (gdE (EC.isL q26v (EC.encL q26v b2)) <|
 (gdE (EC.isL q26v ((EC.encL q26v b3)++[[(C.str s)]])) <|
 (gdE (EC.isL q26v (EC.encL q26v b4)) <|
 (some ((),((),((b0,(b0_1,((b0_2+(List.length [[(C.str s)]])),(b0_3,b0_4)))),((EC.decL q26v (EC.encL q26v b1)),((EC.decL q26v (EC.encL q26v b2)),((EC.decL q26v ((EC.encL q26v b3)++[[(C.str s)]])),(EC.decL q26v (EC.encL q26v b4))))))))))))))
 (gdE (EC.isL q26v (EC.encL q26v b1)) <|
 (gdE (EC.isL q26v (EC.encL q26v b2)) <|
 (gdE (EC.isL q26v (EC.encL q26v b3)) <|
 (gdE (EC.isL q26v (EC.encL q26v b4)) <|
 (some ((),((),((b0,(b0_1,(b0_2,(b0_3,b0_4)))),((EC.decL q26v (EC.encL q26v b1)),((EC.decL q26v (EC.encL q26v b2)),((EC.decL q26v (EC.encL q26v b3)),(EC.decL q26v (EC.encL q26v b4))))))))))))))))
theorem q23x {s} {b0} {b0_1} {b0_2} {b0_3} {b0_4} {b1} {b2} {b3} {b4} {r} (h:q241 s b0 b0_1 b0_2 b0_3 b0_4 b1 b2 b3 b4=some r):q23v s b0 b0_1 b0_2 b0_3 b0_4 b1 b2 b3 b4=some r :=
 qis (fn:=Tryz.f58) (es:=q25e) (hs:=q24e) [] (by kernel_rfl) rfl (by kernel_rfl) trivial trivial (by kernel_rfl) h
def q23w:=hentS Tryz.prog lv X0 58 [0,3,0,2,1,1,3,1,5,2,1,2,2,2,3,2,4,1,1,2,2,2,2,0] q240 q23y (fun x=>q23v x.1.2 x.2.1.1 x.2.1.2.1 x.2.1.2.2.1 x.2.1.2.2.2.1 x.2.1.2.2.2.2 x.2.2.1 x.2.2.2.1 x.2.2.2.2.1 x.2.2.2.2.2) (fun _ _ h=>qir h)
def q24f:=q23w::q24e
def q247:=sLS [0,1] (q279 (vPtr 0 3) (q27b (vC cStr))) (q279 (q27g (bBox (q279 (vRow 1) (q279 (vRow 2) (q279 (vRow 3) (q279 (vRow 4) (q27b (vC (cInt .i64))))))))) (q279 (q27g (bRow q26v)) (q279 (q27g (bRow q26v)) (q279 (q27g (bRow q26v)) (q27b (q27g (bRow q26v))))))) [false,false,false,false,false] [0] (by decide) (fun _=>rfl)
def q246:SC (Unit × ((Nat × Nat × Nat × Nat × Int) × (List ByteArray) × (List ByteArray) × (List ByteArray) × (List ByteArray))):=sLS [] q27a (q279 (q27g (bBox (q279 (vRow 1) (q279 (vRow 2) (q279 (vRow 3) (q279 (vRow 4) (q27b (vC (cInt .i64))))))))) (q279 (q27g (bRow q26v)) (q279 (q27g (bRow q26v)) (q279 (q27g (bRow q26v)) (q27b (q27g (bRow q26v))))))) [false,false,false,false,false] [0] (by decide) (fun _=>rfl)
def q245:HC (Unit × (Unit × ((Nat × Nat × Nat × Nat × Int) × (List ByteArray) × (List ByteArray) × (List ByteArray) × (List ByteArray)))):=hPair (vTup q27a) q246
def q242 (s:ByteArray) (b0:Nat) (b0_1:Nat) (b0_2:Nat) (b0_3:Nat) (b0_4:Int) (b1:(List ByteArray)) (b2:(List ByteArray)) (b3:(List ByteArray)) (b4:(List ByteArray)):Option (Unit × (Unit × ((Nat × Nat × Nat × Nat × Int) × (List ByteArray) × (List ByteArray) × (List ByteArray) × (List ByteArray)))):=hS Tryz.prog lv X0 58 q247 q245 (((),s),((b0,b0_1,b0_2,b0_3,b0_4),b1,b2,b3,b4))
def q248 (s:ByteArray) (b0:Nat) (b0_1:Nat) (b0_2:Nat) (b0_3:Nat) (b0_4:Int) (b1:(List ByteArray)) (b2:(List ByteArray)) (b3:(List ByteArray)) (b4:(List ByteArray)):Option (Unit × (Unit × ((Nat × Nat × Nat × Nat × Int) × (List ByteArray) × (List ByteArray) × (List ByteArray) × (List ByteArray)))) :=
 (gdE (EC.isL q26v (EC.encL q26v b4)) <|
 (Option.bind (q24x (EC.decL q26v (EC.encL q26v b4)) s) fun r0 =>
 (brE (!r0)
 (gdE ((((List.all [[(C.str s)]] (fun (el:(List C))=>((List.length el)==1)))&&(List.all (EC.encL q26v b4) (fun (el:(List C))=>((List.length el)==1))))&&(decide (((((b0_3+(List.length [[(C.str s)]]))+((b0_3+(List.length [[(C.str s)]])) / 4))+192)*16)≤281474976710656)))&&(decide ((b0_3+(List.length [[(C.str s)]]))≤9223372036854775807))) <|
 (gdE (EC.isL q26v (EC.encL q26v b1)) <|
 (gdE (EC.isL q26v (EC.encL q26v b2)) <|
 (gdE (EC.isL q26v (EC.encL q26v b3)) <|
 (gdE (EC.isL q26v ((EC.encL q26v b4)++[[(C.str s)]])) <|
 (some ((),((),((b0,(b0_1,(b0_2,((b0_3+(List.length [[(C.str s)]])),b0_4)))),((EC.decL q26v (EC.encL q26v b1)),((EC.decL q26v (EC.encL q26v b2)),((EC.decL q26v (EC.encL q26v b3)),(EC.decL q26v ((EC.encL q26v b4)++[[(C.str s)]]))))))))))))))
 (gdE (EC.isL q26v (EC.encL q26v b1)) <|
 (gdE (EC.isL q26v (EC.encL q26v b2)) <|
 (gdE (EC.isL q26v (EC.encL q26v b3)) <|
 (gdE (EC.isL q26v (EC.encL q26v b4)) <|
 (some ((),((),((b0,(b0_1,(b0_2,(b0_3,b0_4)))),((EC.decL q26v (EC.encL q26v b1)),((EC.decL q26v (EC.encL q26v b2)),((EC.decL q26v (EC.encL q26v b3)),(EC.decL q26v (EC.encL q26v b4))))))))))))))))
theorem q244 {s} {b0} {b0_1} {b0_2} {b0_3} {b0_4} {b1} {b2} {b3} {b4} {r} (h:q248 s b0 b0_1 b0_2 b0_3 b0_4 b1 b2 b3 b4=some r):q242 s b0 b0_1 b0_2 b0_3 b0_4 b1 b2 b3 b4=some r :=
 qis (fn:=Tryz.f58) (es:=q25e) (hs:=q24f) [] (by kernel_rfl) rfl (by kernel_rfl) trivial trivial (by kernel_rfl) h
def q243:=hentS Tryz.prog lv X0 58 [0,3,0,3,1,1,3,1,5,2,1,2,2,2,3,2,4,1,1,2,2,2,2,0] q247 q245 (fun x=>q242 x.1.2 x.2.1.1 x.2.1.2.1 x.2.1.2.2.1 x.2.1.2.2.2.1 x.2.1.2.2.2.2 x.2.2.1 x.2.2.2.1 x.2.2.2.2.1 x.2.2.2.2.2) (fun _ _ h=>qir h)
def q24g:=q243::q24f
def q235:=sLS [2,3,6,59,60,61] (q279 (vPtr 0 0) (q279 (vPtr 1 0) (q279 (vPtr 2 0) (q279 (vC (cSl q26o)) (q279 (vC (cInt .i64)) (q27b (vC (cInt .i64)))))))) (q279 (q27g (bBox (q279 (vRow 3) (q279 (vRow 4) (q279 (vRow 5) (q279 (vRow 6) (q27b (vC (cInt .i64))))))))) (q279 (q27g (bBox (q279 (vC (cInt .i64)) (q27b (vC (cInt .i64)))))) (q279 (q27g (bBox (q279 (vRow 7) (q279 (vRow 8) (q279 (vRow 9) (q279 (vRow 10) (q27b (vC (cInt .i64))))))))) (q279 (q27g (bRow q26v)) (q279 (q27g (bRow q26v)) (q279 (q27g (bRow q26v)) (q279 (q27g (bRow q26v)) (q279 (q27g (bRow q26v)) (q279 (q27g (bRow q26v)) (q279 (q27g (bRow q26v)) (q27b (q27g (bRow q26v))))))))))))) [false,false,false,false,false,false,false,false,false,false,false] [] (by decide) (fun _=>rfl)
def q234:=sLS [2,3,6,59,60,61,62] (q279 (vPtr 0 0) (q279 (vPtr 1 0) (q279 (vPtr 2 0) (q279 (vC (cSl q26o)) (q279 (vC (cInt .i64)) (q279 (vC (cInt .i64)) (q27b (vC cBool)))))))) (q279 (q27g (bBox (q279 (vRow 3) (q279 (vRow 4) (q279 (vRow 5) (q279 (vRow 6) (q27b (vC (cInt .i64))))))))) (q279 (q27g (bBox (q279 (vC (cInt .i64)) (q27b (vC (cInt .i64)))))) (q279 (q27g (bBox (q279 (vRow 7) (q279 (vRow 8) (q279 (vRow 9) (q279 (vRow 10) (q27b (vC (cInt .i64))))))))) (q279 (q27g (bRow q26v)) (q279 (q27g (bRow q26v)) (q279 (q27g (bRow q26v)) (q279 (q27g (bRow q26v)) (q279 (q27g (bRow q26v)) (q279 (q27g (bRow q26v)) (q279 (q27g (bRow q26v)) (q27b (q27g (bRow q26v))))))))))))) [false,false,false,false,false,false,false,false,false,false,false] [] (by decide) (fun _=>rfl)
def q233:=oAt 5 q234
def q230 (t59:(List S45)) (t60:Int) (t61:Int) (b0:Nat) (b0_1:Nat) (b0_2:Nat) (b0_3:Nat) (b0_4:Int) (b1:Int) (b1_1:Int) (b2:Nat) (b2_1:Nat) (b2_2:Nat) (b2_3:Nat) (b2_4:Int) (b3:(List ByteArray)) (b4:(List ByteArray)) (b5:(List ByteArray)) (b6:(List ByteArray)) (b7:(List ByteArray)) (b8:(List ByteArray)) (b9:(List ByteArray)) (b10:(List ByteArray)):Option ((Unit × Unit × Unit × (List S45) × Int × Int × Bool) × ((Nat × Nat × Nat × Nat × Int) × (Int × Int) × (Nat × Nat × Nat × Nat × Int) × (List ByteArray) × (List ByteArray) × (List ByteArray) × (List ByteArray) × (List ByteArray) × (List ByteArray) × (List ByteArray) × (List ByteArray))):=lS Tryz.prog lv X0 36 106 (q270 (cdF Tryz.f36) 15) q235 q233 (((),(),(),t59,t60,t61),((b0,b0_1,b0_2,b0_3,b0_4),(b1,b1_1),(b2,b2_1,b2_2,b2_3,b2_4),b3,b4,b5,b6,b7,b8,b9,b10))
def q236 (t59:(List S45)) (t60:Int) (t61:Int) (b0:Nat) (b0_1:Nat) (b0_2:Nat) (b0_3:Nat) (b0_4:Int) (b1:Int) (b1_1:Int) (b2:Nat) (b2_1:Nat) (b2_2:Nat) (b2_3:Nat) (b2_4:Int) (b3:(List ByteArray)) (b4:(List ByteArray)) (b5:(List ByteArray)) (b6:(List ByteArray)) (b7:(List ByteArray)) (b8:(List ByteArray)) (b9:(List ByteArray)) (b10:(List ByteArray)):Option ((Unit × Unit × Unit × (List S45) × Int × Int × Bool) × ((Nat × Nat × Nat × Nat × Int) × (Int × Int) × (Nat × Nat × Nat × Nat × Int) × (List ByteArray) × (List ByteArray) × (List ByteArray) × (List ByteArray) × (List ByteArray) × (List ByteArray) × (List ByteArray) × (List ByteArray))) :=
 (brE (decide (t61<t60))
 (gdE (decide (0≤t61)) <|
 (gdE ((decide ((Int.toNat t61)<(List.length (EC.encL q26o t59))))&&(isE [(K1.int Go.IntKind.i64),K1.str,(K1.int Go.IntKind.i64)] 0 (List.getD (EC.encL q26o t59) (Int.toNat t61) []))) <|
 (brE ((q273 (List.getD (List.getD (EC.encL q26o t59) (Int.toNat t61) []) 0 C.ne))==1)
 (gdE (EC.isL q26v (EC.encL q26v b7)) <|
 (gdE (EC.isL q26v (EC.encL q26v b8)) <|
 (gdE (EC.isL q26v (EC.encL q26v b9)) <|
 (gdE (EC.isL q26v (EC.encL q26v b10)) <|
 (Option.bind (q23h (ByteArray.mk (List.toArray [(105:UInt8),(110:UInt8),(98:UInt8),(111:UInt8),(120:UInt8)])) b2 b2_1 b2_2 b2_3 b2_4 (EC.decL q26v (EC.encL q26v b7)) (EC.decL q26v (EC.encL q26v b8)) (EC.decL q26v (EC.encL q26v b9)) (EC.decL q26v (EC.encL q26v b10))) fun r0 =>
 (gdE (EC.isL q26o (EC.encL q26o t59)) <|
 (gdE (EC.isL q26v (EC.encL q26v b3)) <|
 (gdE (EC.isL q26v (EC.encL q26v b4)) <|
 (gdE (EC.isL q26v (EC.encL q26v b5)) <|
 (gdE (EC.isL q26v (EC.encL q26v b6)) <|
 (gdE (EC.isL q26v (EC.encL q26v r0.2.2.2.1)) <|
 (gdE (EC.isL q26v (EC.encL q26v r0.2.2.2.2.1)) <|
 (gdE (EC.isL q26v (EC.encL q26v r0.2.2.2.2.2.1)) <|
 (gdE (EC.isL q26v (EC.encL q26v r0.2.2.2.2.2.2)) <|
 (q230 (EC.decL q26o (EC.encL q26o t59)) t60 (IntKind.wrap .i64 (t61+1)) b0 b0_1 b0_2 b0_3 b0_4 b1 b1_1 r0.2.2.1.1 r0.2.2.1.2.1 r0.2.2.1.2.2.1 r0.2.2.1.2.2.2.1 r0.2.2.1.2.2.2.2 (EC.decL q26v (EC.encL q26v b3)) (EC.decL q26v (EC.encL q26v b4)) (EC.decL q26v (EC.encL q26v b5)) (EC.decL q26v (EC.encL q26v b6)) (EC.decL q26v (EC.encL q26v r0.2.2.2.1)) (EC.decL q26v (EC.encL q26v r0.2.2.2.2.1)) (EC.decL q26v (EC.encL q26v r0.2.2.2.2.2.1)) (EC.decL q26v (EC.encL q26v r0.2.2.2.2.2.2)))))))))))))))))
 (brE ((q273 (List.getD (List.getD (EC.encL q26o t59) (Int.toNat t61) []) 0 C.ne))==2)
 (gdE (EC.isL q26v (EC.encL q26v b7)) <|
 (gdE (EC.isL q26v (EC.encL q26v b8)) <|
 (gdE (EC.isL q26v (EC.encL q26v b9)) <|
 (gdE (EC.isL q26v (EC.encL q26v b10)) <|
 (Option.bind (q23h (q27s (List.getD (List.getD (EC.encL q26o t59) (Int.toNat t61) []) 1 C.ne)) b2 b2_1 b2_2 b2_3 b2_4 (EC.decL q26v (EC.encL q26v b7)) (EC.decL q26v (EC.encL q26v b8)) (EC.decL q26v (EC.encL q26v b9)) (EC.decL q26v (EC.encL q26v b10))) fun r0 =>
 (gdE (EC.isL q26o (EC.encL q26o t59)) <|
 (gdE (EC.isL q26v (EC.encL q26v b3)) <|
 (gdE (EC.isL q26v (EC.encL q26v b4)) <|
 (gdE (EC.isL q26v (EC.encL q26v b5)) <|
 (gdE (EC.isL q26v (EC.encL q26v b6)) <|
 (gdE (EC.isL q26v (EC.encL q26v r0.2.2.2.1)) <|
 (gdE (EC.isL q26v (EC.encL q26v r0.2.2.2.2.1)) <|
 (gdE (EC.isL q26v (EC.encL q26v r0.2.2.2.2.2.1)) <|
 (gdE (EC.isL q26v (EC.encL q26v r0.2.2.2.2.2.2)) <|
 (q230 (EC.decL q26o (EC.encL q26o t59)) t60 (IntKind.wrap .i64 (t61+1)) b0 b0_1 b0_2 b0_3 b0_4 b1 b1_1 r0.2.2.1.1 r0.2.2.1.2.1 r0.2.2.1.2.2.1 r0.2.2.1.2.2.2.1 r0.2.2.1.2.2.2.2 (EC.decL q26v (EC.encL q26v b3)) (EC.decL q26v (EC.encL q26v b4)) (EC.decL q26v (EC.encL q26v b5)) (EC.decL q26v (EC.encL q26v b6)) (EC.decL q26v (EC.encL q26v r0.2.2.2.1)) (EC.decL q26v (EC.encL q26v r0.2.2.2.2.1)) (EC.decL q26v (EC.encL q26v r0.2.2.2.2.2.1)) (EC.decL q26v (EC.encL q26v r0.2.2.2.2.2.2)))))))))))))))))
 (brE ((q273 (List.getD (List.getD (EC.encL q26o t59) (Int.toNat t61) []) 0 C.ne))==4)
 (gdE (EC.isL q26v (EC.encL q26v b7)) <|
 (gdE (EC.isL q26v (EC.encL q26v b8)) <|
 (gdE (EC.isL q26v (EC.encL q26v b9)) <|
 (gdE (EC.isL q26v (EC.encL q26v b10)) <|
 (Option.bind (q23o (q27s (List.getD (List.getD (EC.encL q26o t59) (Int.toNat t61) []) 1 C.ne)) b2 b2_1 b2_2 b2_3 b2_4 (EC.decL q26v (EC.encL q26v b7)) (EC.decL q26v (EC.encL q26v b8)) (EC.decL q26v (EC.encL q26v b9)) (EC.decL q26v (EC.encL q26v b10))) fun r0 =>
 (gdE (EC.isL q26o (EC.encL q26o t59)) <|
 (gdE (EC.isL q26v (EC.encL q26v b3)) <|
 (gdE (EC.isL q26v (EC.encL q26v b4)) <|
 (gdE (EC.isL q26v (EC.encL q26v b5)) <|
 (gdE (EC.isL q26v (EC.encL q26v b6)) <|
 (gdE (EC.isL q26v (EC.encL q26v r0.2.2.2.1)) <|
 (gdE (EC.isL q26v (EC.encL q26v r0.2.2.2.2.1)) <|
 (gdE (EC.isL q26v (EC.encL q26v r0.2.2.2.2.2.1)) <|
 (gdE (EC.isL q26v (EC.encL q26v r0.2.2.2.2.2.2)) <|
 (q230 (EC.decL q26o (EC.encL q26o t59)) t60 (IntKind.wrap .i64 (t61+1)) b0 b0_1 b0_2 b0_3 b0_4 b1 b1_1 r0.2.2.1.1 r0.2.2.1.2.1 r0.2.2.1.2.2.1 r0.2.2.1.2.2.2.1 r0.2.2.1.2.2.2.2 (EC.decL q26v (EC.encL q26v b3)) (EC.decL q26v (EC.encL q26v b4)) (EC.decL q26v (EC.encL q26v b5)) (EC.decL q26v (EC.encL q26v b6)) (EC.decL q26v (EC.encL q26v r0.2.2.2.1)) (EC.decL q26v (EC.encL q26v r0.2.2.2.2.1)) (EC.decL q26v (EC.encL q26v r0.2.2.2.2.2.1)) (EC.decL q26v (EC.encL q26v r0.2.2.2.2.2.2)))))))))))))))))
 (brE ((q273 (List.getD (List.getD (EC.encL q26o t59) (Int.toNat t61) []) 0 C.ne))==5)
 (gdE (EC.isL q26v (EC.encL q26v b7)) <|
 (gdE (EC.isL q26v (EC.encL q26v b8)) <|
 (gdE (EC.isL q26v (EC.encL q26v b9)) <|
 (gdE (EC.isL q26v (EC.encL q26v b10)) <|
 (Option.bind (q23v (q27s (List.getD (List.getD (EC.encL q26o t59) (Int.toNat t61) []) 1 C.ne)) b2 b2_1 b2_2 b2_3 b2_4 (EC.decL q26v (EC.encL q26v b7)) (EC.decL q26v (EC.encL q26v b8)) (EC.decL q26v (EC.encL q26v b9)) (EC.decL q26v (EC.encL q26v b10))) fun r0 =>
 (gdE (EC.isL q26o (EC.encL q26o t59)) <|
 (gdE (EC.isL q26v (EC.encL q26v b3)) <|
 (gdE (EC.isL q26v (EC.encL q26v b4)) <|
 (gdE (EC.isL q26v (EC.encL q26v b5)) <|
 (gdE (EC.isL q26v (EC.encL q26v b6)) <|
 (gdE (EC.isL q26v (EC.encL q26v r0.2.2.2.1)) <|
 (gdE (EC.isL q26v (EC.encL q26v r0.2.2.2.2.1)) <|
 (gdE (EC.isL q26v (EC.encL q26v r0.2.2.2.2.2.1)) <|
 (gdE (EC.isL q26v (EC.encL q26v r0.2.2.2.2.2.2)) <|
 (q230 (EC.decL q26o (EC.encL q26o t59)) t60 (IntKind.wrap .i64 (t61+1)) b0 b0_1 b0_2 b0_3 b0_4 b1 b1_1 r0.2.2.1.1 r0.2.2.1.2.1 r0.2.2.1.2.2.1 r0.2.2.1.2.2.2.1 r0.2.2.1.2.2.2.2 (EC.decL q26v (EC.encL q26v b3)) (EC.decL q26v (EC.encL q26v b4)) (EC.decL q26v (EC.encL q26v b5)) (EC.decL q26v (EC.encL q26v b6)) (EC.decL q26v (EC.encL q26v r0.2.2.2.1)) (EC.decL q26v (EC.encL q26v r0.2.2.2.2.1)) (EC.decL q26v (EC.encL q26v r0.2.2.2.2.2.1)) (EC.decL q26v (EC.encL q26v r0.2.2.2.2.2.2)))))))))))))))))
 (brE ((q273 (List.getD (List.getD (EC.encL q26o t59) (Int.toNat t61) []) 0 C.ne))==7)
 (gdE (EC.isL q26v (EC.encL q26v b7)) <|
 (gdE (EC.isL q26v (EC.encL q26v b8)) <|
 (gdE (EC.isL q26v (EC.encL q26v b9)) <|
 (gdE (EC.isL q26v (EC.encL q26v b10)) <|
 (Option.bind (q242 (q27s (List.getD (List.getD (EC.encL q26o t59) (Int.toNat t61) []) 1 C.ne)) b2 b2_1 b2_2 b2_3 b2_4 (EC.decL q26v (EC.encL q26v b7)) (EC.decL q26v (EC.encL q26v b8)) (EC.decL q26v (EC.encL q26v b9)) (EC.decL q26v (EC.encL q26v b10))) fun r0 =>
 (gdE (EC.isL q26o (EC.encL q26o t59)) <|
 (gdE (EC.isL q26v (EC.encL q26v b3)) <|
 (gdE (EC.isL q26v (EC.encL q26v b4)) <|
 (gdE (EC.isL q26v (EC.encL q26v b5)) <|
 (gdE (EC.isL q26v (EC.encL q26v b6)) <|
 (gdE (EC.isL q26v (EC.encL q26v r0.2.2.2.1)) <|
 (gdE (EC.isL q26v (EC.encL q26v r0.2.2.2.2.1)) <|
 (gdE (EC.isL q26v (EC.encL q26v r0.2.2.2.2.2.1)) <|
 (gdE (EC.isL q26v (EC.encL q26v r0.2.2.2.2.2.2)) <|
 (q230 (EC.decL q26o (EC.encL q26o t59)) t60 (IntKind.wrap .i64 (t61+1)) b0 b0_1 b0_2 b0_3 b0_4 b1 b1_1 r0.2.2.1.1 r0.2.2.1.2.1 r0.2.2.1.2.2.1 r0.2.2.1.2.2.2.1 r0.2.2.1.2.2.2.2 (EC.decL q26v (EC.encL q26v b3)) (EC.decL q26v (EC.encL q26v b4)) (EC.decL q26v (EC.encL q26v b5)) (EC.decL q26v (EC.encL q26v b6)) (EC.decL q26v (EC.encL q26v r0.2.2.2.1)) (EC.decL q26v (EC.encL q26v r0.2.2.2.2.1)) (EC.decL q26v (EC.encL q26v r0.2.2.2.2.2.1)) (EC.decL q26v (EC.encL q26v r0.2.2.2.2.2.2)))))))))))))))))
 (brE ((q273 (List.getD (List.getD (EC.encL q26o t59) (Int.toNat t61) []) 0 C.ne))==6)
 (gdE (EC.isL q26o (EC.encL q26o t59)) <|
 (gdE (EC.isL q26v (EC.encL q26v b3)) <|
 (gdE (EC.isL q26v (EC.encL q26v b4)) <|
 (gdE (EC.isL q26v (EC.encL q26v b5)) <|
 (gdE (EC.isL q26v (EC.encL q26v b6)) <|
 (gdE (EC.isL q26v (EC.encL q26v b7)) <|
 (gdE (EC.isL q26v (EC.encL q26v b8)) <|
 (gdE (EC.isL q26v (EC.encL q26v b9)) <|
 (gdE (EC.isL q26v (EC.encL q26v b10)) <|
 (q230 (EC.decL q26o (EC.encL q26o t59)) t60 (IntKind.wrap .i64 (t61+1)) b0 b0_1 b0_2 b0_3 b0_4 b1 b1_1 b2 b2_1 b2_2 b2_3 (IntKind.wrap .i64 (((BitVec.toNat ((BitVec.ofInt (Go.IntKind.bits Go.IntKind.i64) b2_4) ||| (BitVec.ofInt (Go.IntKind.bits Go.IntKind.i64) (q273 (List.getD (List.getD (EC.encL q26o t59) (Int.toNat t61) []) 2 C.ne))))):Nat):Int)) (EC.decL q26v (EC.encL q26v b3)) (EC.decL q26v (EC.encL q26v b4)) (EC.decL q26v (EC.encL q26v b5)) (EC.decL q26v (EC.encL q26v b6)) (EC.decL q26v (EC.encL q26v b7)) (EC.decL q26v (EC.encL q26v b8)) (EC.decL q26v (EC.encL q26v b9)) (EC.decL q26v (EC.encL q26v b10))))))))))))
 (gdE (EC.isL q26o (EC.encL q26o t59)) <|
 (gdE (EC.isL q26v (EC.encL q26v b3)) <|
 (gdE (EC.isL q26v (EC.encL q26v b4)) <|
 (gdE (EC.isL q26v (EC.encL q26v b5)) <|
 (gdE (EC.isL q26v (EC.encL q26v b6)) <|
 (gdE (EC.isL q26v (EC.encL q26v b7)) <|
 (gdE (EC.isL q26v (EC.encL q26v b8)) <|
 (gdE (EC.isL q26v (EC.encL q26v b9)) <|
 (gdE (EC.isL q26v (EC.encL q26v b10)) <|
 (q230 (EC.decL q26o (EC.encL q26o t59)) t60 (IntKind.wrap .i64 (t61+1)) b0 b0_1 b0_2 b0_3 b0_4 b1 b1_1 b2 b2_1 b2_2 b2_3 b2_4 (EC.decL q26v (EC.encL q26v b3)) (EC.decL q26v (EC.encL q26v b4)) (EC.decL q26v (EC.encL q26v b5)) (EC.decL q26v (EC.encL q26v b6)) (EC.decL q26v (EC.encL q26v b7)) (EC.decL q26v (EC.encL q26v b8)) (EC.decL q26v (EC.encL q26v b9)) (EC.decL q26v (EC.encL q26v b10))))))))))))))))))))
 (gdE (EC.isL q26o (EC.encL q26o t59)) <|
 (gdE (EC.isL q26v (EC.encL q26v b3)) <|
 (gdE (EC.isL q26v (EC.encL q26v b4)) <|
 (gdE (EC.isL q26v (EC.encL q26v b5)) <|
 (gdE (EC.isL q26v (EC.encL q26v b6)) <|
 (gdE (EC.isL q26v (EC.encL q26v b7)) <|
 (gdE (EC.isL q26v (EC.encL q26v b8)) <|
 (gdE (EC.isL q26v (EC.encL q26v b9)) <|
 (gdE (EC.isL q26v (EC.encL q26v b10)) <|
 (some (((),((),((),((EC.decL q26o (EC.encL q26o t59)),(t60,(t61,false)))))),((b0,(b0_1,(b0_2,(b0_3,b0_4)))),((b1,b1_1),((b2,(b2_1,(b2_2,(b2_3,b2_4)))),((EC.decL q26v (EC.encL q26v b3)),((EC.decL q26v (EC.encL q26v b4)),((EC.decL q26v (EC.encL q26v b5)),((EC.decL q26v (EC.encL q26v b6)),((EC.decL q26v (EC.encL q26v b7)),((EC.decL q26v (EC.encL q26v b8)),((EC.decL q26v (EC.encL q26v b9)),(EC.decL q26v (EC.encL q26v b10))))))))))))))))))))))))
theorem q232 {t59} {t60} {t61} {b0} {b0_1} {b0_2} {b0_3} {b0_4} {b1} {b1_1} {b2} {b2_1} {b2_2} {b2_3} {b2_4} {b3} {b4} {b5} {b6} {b7} {b8} {b9} {b10} {r} (h:q236 t59 t60 t61 b0 b0_1 b0_2 b0_3 b0_4 b1 b1_1 b2 b2_1 b2_2 b2_3 b2_4 b3 b4 b5 b6 b7 b8 b9 b10=some r):q230 t59 t60 t61 b0 b0_1 b0_2 b0_3 b0_4 b1 b1_1 b2 b2_1 b2_2 b2_3 b2_4 b3 b4 b5 b6 b7 b8 b9 b10=some r :=
 qm5 (es:=q25e) (hs:=q24g) [] (by kernel_rfl) trivial trivial (by kernel_rfl) h
def q231:=q27d Tryz.prog lv X0 15 (q270 (cdF Tryz.f36) 15) q235 q233 (fun x=>q230 x.1.2.2.2.1 x.1.2.2.2.2.1 x.1.2.2.2.2.2 x.2.1.1 x.2.1.2.1 x.2.1.2.2.1 x.2.1.2.2.2.1 x.2.1.2.2.2.2 x.2.2.1.1 x.2.2.1.2 x.2.2.2.1.1 x.2.2.2.1.2.1 x.2.2.2.1.2.2.1 x.2.2.2.1.2.2.2.1 x.2.2.2.1.2.2.2.2 x.2.2.2.2.1 x.2.2.2.2.2.1 x.2.2.2.2.2.2.1 x.2.2.2.2.2.2.2.1 x.2.2.2.2.2.2.2.2.1 x.2.2.2.2.2.2.2.2.2.1 x.2.2.2.2.2.2.2.2.2.2.1 x.2.2.2.2.2.2.2.2.2.2.2) (fun _ _ h=>qm4 h)
def q22x:Cod (V × List B) (((Nat × Nat × Nat × Nat × Int) × (Int × Int)) × ((List ByteArray) × (List ByteArray) × (List ByteArray) × (List ByteArray))):=(cPair (vTup (q279 (vAgg (q279 (vRow 0) (q279 (vRow 1) (q279 (vRow 2) (q279 (vRow 3) (q27b (vC (cInt .i64)))))))) (q27b (vAgg (q279 (vC (cInt .i64)) (q27b (vC (cInt .i64)))))))) (q279 (bRow q26v) (q279 (bRow q26v) (q279 (bRow q26v) (q27b (bRow q26v))))))
def q23f (l:(List S45)):Option (((Nat × Nat × Nat × Nat × Int) × (Int × Int)) × ((List ByteArray) × (List ByteArray) × (List ByteArray) × (List ByteArray))):=fS Tryz.prog lv X0 36 q22w q22x l
def q23g (l:(List S45)):Option (((Nat × Nat × Nat × Nat × Int) × (Int × Int)) × ((List ByteArray) × (List ByteArray) × (List ByteArray) × (List ByteArray))) :=
 (brE (decide ((List.length (EC.encL q26o l):Int) > 300))
 (Option.bind (q5d 2 (-1)) fun r0 =>
 (some (((0,(0,(0,(0,0)))),(r0.1,r0.2)),((EC.decL q26v []),((EC.decL q26v []),((EC.decL q26v []),(EC.decL q26v [])))))))
 (gdE (EC.isL q26o (EC.encL q26o l)) <|
 (gdE (EC.isL q26o (EC.encL q26o l)) <|
 (Option.bind (q237 (EC.decL q26o (EC.encL q26o l)) (EC.decL q26o (EC.encL q26o l)) (List.length (EC.encL q26o l):Int) 0 0 0 0 0 0 0 0 (EC.decL q26v []) (EC.decL q26v []) (EC.decL q26v []) (EC.decL q26v [])) fun r0 =>
 (Sum.elim (fun r1=>(gdE (EC.isL q26v (EC.encL q26v r1.2.2.2.1)) <|
 (gdE (EC.isL q26v (EC.encL q26v r1.2.2.2.2.1)) <|
 (gdE (EC.isL q26v (EC.encL q26v r1.2.2.2.2.2.1)) <|
 (gdE (EC.isL q26v (EC.encL q26v r1.2.2.2.2.2.2)) <|
 (some (((r1.2.1.1,(r1.2.1.2.1,(r1.2.1.2.2.1,(r1.2.1.2.2.2.1,r1.2.1.2.2.2.2)))),(r1.2.2.1.1,r1.2.2.1.2)),((EC.decL q26v (EC.encL q26v r1.2.2.2.1)),((EC.decL q26v (EC.encL q26v r1.2.2.2.2.1)),((EC.decL q26v (EC.encL q26v r1.2.2.2.2.2.1)),(EC.decL q26v (EC.encL q26v r1.2.2.2.2.2.2))))))))))))
 (fun r1=>(gdE (EC.isL q26o (EC.encL q26o r1.1.1)) <|
 (gdE (EC.isL q26v (EC.encL q26v r1.2.2.2.1)) <|
 (gdE (EC.isL q26v (EC.encL q26v r1.2.2.2.2.1)) <|
 (gdE (EC.isL q26v (EC.encL q26v r1.2.2.2.2.2.1)) <|
 (gdE (EC.isL q26v (EC.encL q26v r1.2.2.2.2.2.2)) <|
 (Option.bind (q230 (EC.decL q26o (EC.encL q26o r1.1.1)) (((List.length (EC.encL q26o r1.1.1)):Nat):Int) 0 r1.2.1.1 r1.2.1.2.1 r1.2.1.2.2.1 r1.2.1.2.2.2.1 r1.2.1.2.2.2.2 r1.2.2.1.1 r1.2.2.1.2 0 0 0 0 0 (EC.decL q26v (EC.encL q26v r1.2.2.2.1)) (EC.decL q26v (EC.encL q26v r1.2.2.2.2.1)) (EC.decL q26v (EC.encL q26v r1.2.2.2.2.2.1)) (EC.decL q26v (EC.encL q26v r1.2.2.2.2.2.2)) (EC.decL q26v []) (EC.decL q26v []) (EC.decL q26v []) (EC.decL q26v [])) fun r2 =>
 (Option.bind q6e fun r3 =>
 (gdE (EC.isL q26v (EC.encL q26v r2.2.2.2.2.2.2.2.2.1)) <|
 (gdE (EC.isL q26v (EC.encL q26v r2.2.2.2.2.2.2.2.2.2.1)) <|
 (gdE (EC.isL q26v (EC.encL q26v r2.2.2.2.2.2.2.2.2.2.2.1)) <|
 (gdE (EC.isL q26v (EC.encL q26v r2.2.2.2.2.2.2.2.2.2.2.2)) <|
 (some (((r2.2.2.2.1.1,(r2.2.2.2.1.2.1,(r2.2.2.2.1.2.2.1,(r2.2.2.2.1.2.2.2.1,r2.2.2.2.1.2.2.2.2)))),(r3.1,r3.2)),((EC.decL q26v (EC.encL q26v r2.2.2.2.2.2.2.2.2.1)),((EC.decL q26v (EC.encL q26v r2.2.2.2.2.2.2.2.2.2.1)),((EC.decL q26v (EC.encL q26v r2.2.2.2.2.2.2.2.2.2.2.1)),(EC.decL q26v (EC.encL q26v r2.2.2.2.2.2.2.2.2.2.2.2))))))))))))))))))) r0)))))
theorem q22z {l} {r} (h:q23g l=some r):q23f l=some r :=
 qf2 (es:=q25e) (hs:=q24g) [q238,q231] Tryz.func36 rfl (by kernel_rfl) rfl (by kernel_rfl) (by kernel_rfl) ⟨⟨_,rfl,rfl⟩,⟨_,rfl,rfl⟩,trivial⟩ trivial (by kernel_rfl) h
def q22y:=entS Tryz.prog lv X0 36 [] q22w q22x (fun x=>q23f x) (fun _ _ h=>qf1 h)
def q25d:=q22y::q25e
end
end Go.Proofs.YtokahibbkdbndaaGreatDoor
