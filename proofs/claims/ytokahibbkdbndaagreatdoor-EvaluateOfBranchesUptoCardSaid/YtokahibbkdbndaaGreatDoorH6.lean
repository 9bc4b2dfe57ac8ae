/- Functions of the program as plain functions: made by program from the machine. -/
import Derived.Test.YtokahibbkdbndaaGreatDoorH5
namespace Go.Proofs.YtokahibbkdbndaaGreatDoor
open Go.RowKit
set_option maxRecDepth 100000
noncomputable section
structure S62 where
 Rule:Int
 Outcome:Bool
 Text:ByteArray
def q26t:EC S62 where
 enc x:=[.int .i64 x.Rule,.bool x.Outcome,.str x.Text]
 dec c:=⟨q273 (c.getD 0 .ne),q26h (c.getD 1 .ne),q27s (c.getD 2 .ne)⟩
 is c:=isE [.int .i64,.bool,.str] 0 c
 enc_dec h:=q8r h
 dec_enc x:=by rfl
 is_enc x:=by simp [isE,isK]
theorem enc_62 (x:S62):q26t.enc x=[.int .i64 x.Rule,.bool x.Outcome,.str x.Text]:=rfl
theorem q4g (xs:List S62) (n:Nat):q273 (((q26t.encL xs).getD n []).getD 0 .ne)=(xs.getD n (q26t.dec [])).Rule:=by
 by_cases h:n<xs.length
 ·simp only [EC.getD_lt _ _ h];simp [enc_62,h,q273,List.getD_eq_getElem?_getD]
 ·simp only [EC.getD_ge _ _ (Nat.not_lt.1 h)];simp [Nat.not_lt.1 h,q26t,q27s,q273,q26h,List.getD_eq_getElem?_getD]
theorem q1ll (xs:List S62) (n:Nat):q26h (((q26t.encL xs).getD n []).getD 1 .ne)=(xs.getD n (q26t.dec [])).Outcome:=by
 by_cases h:n<xs.length
 ·simp only [EC.getD_lt _ _ h];simp [enc_62,h,q26h,List.getD_eq_getElem?_getD]
 ·simp only [EC.getD_ge _ _ (Nat.not_lt.1 h)];simp [Nat.not_lt.1 h,q26t,q27s,q273,q26h,List.getD_eq_getElem?_getD]
theorem lit_62 (a0:Int) (a1:Bool) (a2:ByteArray):([.int .i64 a0,.bool a1,.str a2]:List C)=q26t.enc (⟨a0,a1,a2⟩:S62):=rfl
theorem apd_62 (xs:List S62) (a0:Int) (a1:Bool) (a2:ByteArray):q26t.encL xs++[[.int .i64 a0,.bool a1,.str a2]]=q26t.encL (xs++[(⟨a0,a1,a2⟩:S62)]):=by rw [lit_62];simp [EC.encL]
theorem all_62 (xs:List S62):(q26t.encL xs).all (fun (el:List C)=>el.length==3)=true:=by induction xs with|nil=>rfl|cons x xs ih=>first|(simp [EC.encL,enc_62];done)|simpa [EC.encL,enc_62] using ih
def qeu:=(q279 (vC (cSl q26r)) (q27b (vAgg (q279 (vC cStr) (q279 (vC (cSl q26k)) (q279 (vC cStr) (q279 (vC (cSl q26s)) (q27b (vC (cSl q26q))))))))))
def qch:=sLS [0,1,2] (q279 (vC (cSl q26r)) (q279 (vAgg (q279 (vC cStr) (q279 (vC (cSl q26k)) (q279 (vC cStr) (q279 (vC (cSl q26s)) (q27b (vC (cSl q26q)))))))) (q27b (vFn 48 (q27b (vPtr 0 0)))))) (q279 (q27g (bBox (q27b (vRow 1)))) (q27b (q27g (bRow q26t)))) [false,false] [0] (by decide) (fun _=>rfl)
def qcg:SC ((Nat × (Int × Int)) × ((List S45) × Nat × (List S62))):=sLS [0,1] (q279 (vRow 0) (q27b (vAgg (q279 (vC (cInt .i64)) (q27b (vC (cInt .i64))))))) (q279 (q27g (bRow q26o)) (q279 (q27g (bBox (q27b (vRow 2)))) (q27b (q27g (bRow q26t))))) [false,false,false] [1] (by decide) (fun _=>rfl)
def qcf:HC ((Nat × (Int × Int)) × ((Nat × (Int × Int)) × ((List S45) × Nat × (List S62)))):=hPair (vTup (q279 (vRow 0) (q27b (vAgg (q279 (vC (cInt .i64)) (q27b (vC (cInt .i64)))))))) qcg
def qcc (s:(List S50)) (m_:ByteArray) (m__1:(List S118)) (m__2:ByteArray) (m__3:(List S55)) (m__4:(List Int)) (b0:Nat) (b1:(List S62)):Option ((Nat × (Int × Int)) × ((Nat × (Int × Int)) × ((List S45) × Nat × (List S62)))):=hS Tryz.prog lv X0 37 qch qcf ((s,(m_,m__1,m__2,m__3,m__4),()),(b0,b1))
def qcd:=hentS Tryz.prog lv X0 37 [0,1,4,1,7,5,1,3,1,4,1,3,1,4,1,4,2,6,48,1,3,0,0,1,1,2,1,2,0] qch qcf (fun x=>qcc x.1.1 x.1.2.1.1 x.1.2.1.2.1 x.1.2.1.2.2.1 x.1.2.1.2.2.2.1 x.1.2.1.2.2.2.2 x.2.1 x.2.2) (fun _ _ h=>qir h)
def qke:=qcd::q161
def qcw:=sLS [0,1,2] (q279 (vPtr 0 0) (q279 (vC (cSl q26r)) (q27b (vC (cInt .i64))))) (q279 (q27g (bBox (q279 (vC cStr) (q279 (vC (cSl q26k)) (q279 (vC cStr) (q279 (vC (cSl q26s)) (q279 (vC (cSl q26q)) (q279 (vC (cInt .i64)) (q279 (vMp 1) (q279 (vRow 3) (q27b (vFn 48 (q27b (vPtr 2 0)))))))))))))) (q279 (q27g bMap) (q279 (q27g (bBox (q27b (vRow 4)))) (q279 (q27g (bRow q26o)) (q27b (q27g (bRow q26t))))))) [false,false,false,false,false] [0,1,2] (by decide) (fun _=>rfl)
def qcv:SC (Bool × ((ByteArray × (List S118) × ByteArray × (List S55) × (List Int) × Int × Unit × Nat × Unit) × (List (ByteArray × ByteArray)) × Nat × (List S45) × (List S62))):=sLS [0] (q27b (vC cBool)) (q279 (q27g (bBox (q279 (vC cStr) (q279 (vC (cSl q26k)) (q279 (vC cStr) (q279 (vC (cSl q26s)) (q279 (vC (cSl q26q)) (q279 (vC (cInt .i64)) (q279 (vMp 1) (q279 (vRow 3) (q27b (vFn 48 (q27b (vPtr 2 0)))))))))))))) (q279 (q27g bMap) (q279 (q27g (bBox (q27b (vRow 4)))) (q279 (q27g (bRow q26o)) (q27b (q27g (bRow q26t))))))) [false,false,false,false,false] [0,1,2] (by decide) (fun _=>rfl)
def qcu:HC (Bool × (Bool × ((ByteArray × (List S118) × ByteArray × (List S55) × (List Int) × Int × Unit × Nat × Unit) × (List (ByteArray × ByteArray)) × Nat × (List S45) × (List S62)))):=hPair (vC cBool) qcv
def qcj (s:(List S50)) (number:Int) (b0:ByteArray) (b0_1:(List S118)) (b0_2:ByteArray) (b0_3:(List S55)) (b0_4:(List Int)) (b0_5:Int) (b0_6:Nat) (b1:(List (ByteArray × ByteArray))) (b2:Nat) (b3:(List S45)) (b4:(List S62)):Option (Bool × (Bool × ((ByteArray × (List S118) × ByteArray × (List S55) × (List Int) × Int × Unit × Nat × Unit) × (List (ByteArray × ByteArray)) × Nat × (List S45) × (List S62)))):=hS Tryz.prog lv X0 61 qcw qcu (((),s,number),((b0,b0_1,b0_2,b0_3,b0_4,b0_5,(),b0_6,()),b1,b2,b3,b4))
def qck:=hentS Tryz.prog lv X0 61 [0,3,0,0,1,1,4,2,1,1,1,9,1,3,1,4,1,3,1,4,1,4,1,1,8,1,2,3,6,48,1,3,2,0,4,1,1,2,4,2,2,0,1,2] qcw qcu (fun x=>qcj x.1.2.1 x.1.2.2 x.2.1.1 x.2.1.2.1 x.2.1.2.2.1 x.2.1.2.2.2.1 x.2.1.2.2.2.2.1 x.2.1.2.2.2.2.2.1 x.2.1.2.2.2.2.2.2.2.1 x.2.2.1 x.2.2.2.1 x.2.2.2.2.1 x.2.2.2.2.2) (fun _ _ h=>qir h)
def qkf:=qck::qke
def qeb:=sLS [0,1] (q279 (vPtr 0 0) (q27b (vAgg (q279 (vC (cInt .i64)) (q279 (vC (cSl q26p)) (q279 (vC cStr) (q279 (vC (cInt .i64)) (q279 (vC cStr) (q27b (vC (cInt .i64))))))))))) (q279 (q27g (bBox (q279 (vC cStr) (q279 (vC (cSl q26k)) (q279 (vC cStr) (q279 (vC (cSl q26s)) (q279 (vC (cSl q26q)) (q279 (vC (cInt .i64)) (q279 (vMp 1) (q279 (vRow 3) (q27b (vFn 48 (q27b (vPtr 2 0)))))))))))))) (q279 (q27g bMap) (q279 (q27g (bBox (q27b (vRow 4)))) (q279 (q27g (bRow q26o)) (q27b (q27g (bRow q26t))))))) [false,false,false,false,false] [0,1,2] (by decide) (fun _=>rfl)
def qea:SC (Bool × ((ByteArray × (List S118) × ByteArray × (List S55) × (List Int) × Int × Unit × Nat × Unit) × (List (ByteArray × ByteArray)) × Nat × (List S45) × (List S62))):=sLS [0] (q27b (vC cBool)) (q279 (q27g (bBox (q279 (vC cStr) (q279 (vC (cSl q26k)) (q279 (vC cStr) (q279 (vC (cSl q26s)) (q279 (vC (cSl q26q)) (q279 (vC (cInt .i64)) (q279 (vMp 1) (q279 (vRow 3) (q27b (vFn 48 (q27b (vPtr 2 0)))))))))))))) (q279 (q27g bMap) (q279 (q27g (bBox (q27b (vRow 4)))) (q279 (q27g (bRow q26o)) (q27b (q27g (bRow q26t))))))) [false,false,false,false,false] [0,1,2] (by decide) (fun _=>rfl)
def qe9:HC (Bool × (Bool × ((ByteArray × (List S118) × ByteArray × (List S55) × (List Int) × Int × Unit × Nat × Unit) × (List (ByteArray × ByteArray)) × Nat × (List S45) × (List S62)))):=hPair (vC cBool) qea
def qdr (t:Int) (t_1:(List S48)) (t_2:ByteArray) (t_3:Int) (t_4:ByteArray) (t_5:Int) (b0:ByteArray) (b0_1:(List S118)) (b0_2:ByteArray) (b0_3:(List S55)) (b0_4:(List Int)) (b0_5:Int) (b0_6:Nat) (b1:(List (ByteArray × ByteArray))) (b2:Nat) (b3:(List S45)) (b4:(List S62)):Option (Bool × (Bool × ((ByteArray × (List S118) × ByteArray × (List S55) × (List Int) × Int × Unit × Nat × Unit) × (List (ByteArray × ByteArray)) × Nat × (List S45) × (List S62)))):=hS Tryz.prog lv X0 80 qeb qe9 (((),(t,t_1,t_2,t_3,t_4,t_5)),((b0,b0_1,b0_2,b0_3,b0_4,b0_5,(),b0_6,()),b1,b2,b3,b4))
def qds:=hentS Tryz.prog lv X0 80 [0,3,0,0,1,7,6,1,1,1,4,1,3,1,1,1,3,1,1,1,9,1,3,1,4,1,3,1,4,1,4,1,1,8,1,2,3,6,48,1,3,2,0,4,1,1,2,4,2,2,0,1,2] qeb qe9 (fun x=>qdr x.1.2.1 x.1.2.2.1 x.1.2.2.2.1 x.1.2.2.2.2.1 x.1.2.2.2.2.2.1 x.1.2.2.2.2.2.2 x.2.1.1 x.2.1.2.1 x.2.1.2.2.1 x.2.1.2.2.2.1 x.2.1.2.2.2.2.1 x.2.1.2.2.2.2.2.1 x.2.1.2.2.2.2.2.2.2.1 x.2.2.1 x.2.2.2.1 x.2.2.2.2.1 x.2.2.2.2.2) (fun _ _ h=>qir h)
def qki:=qds::qkf
def qd3:=sLS [0,1] (q279 (vPtr 0 0) (q27b (vC cStr))) (q279 (q27g (bBox (q279 (vC cStr) (q279 (vC (cSl q26k)) (q279 (vC cStr) (q279 (vC (cSl q26s)) (q279 (vC (cSl q26q)) (q279 (vC (cInt .i64)) (q279 (vMp 1) (q279 (vRow 3) (q27b (vFn 48 (q27b (vPtr 2 0)))))))))))))) (q279 (q27g bMap) (q279 (q27g (bBox (q27b (vRow 4)))) (q279 (q27g (bRow q26o)) (q27b (q27g (bRow q26t))))))) [false,false,false,false,false] [0,1,2] (by decide) (fun _=>rfl)
def qd2:SC (Nat × ((List ByteArray) × (ByteArray × (List S118) × ByteArray × (List S55) × (List Int) × Int × Unit × Nat × Unit) × (List (ByteArray × ByteArray)) × Nat × (List S45) × (List S62))):=sLS [0] (q27b (vRow 0)) (q279 (q27g (bRow q26v)) (q279 (q27g (bBox (q279 (vC cStr) (q279 (vC (cSl q26k)) (q279 (vC cStr) (q279 (vC (cSl q26s)) (q279 (vC (cSl q26q)) (q279 (vC (cInt .i64)) (q279 (vMp 2) (q279 (vRow 4) (q27b (vFn 48 (q27b (vPtr 3 0)))))))))))))) (q279 (q27g bMap) (q279 (q27g (bBox (q27b (vRow 5)))) (q279 (q27g (bRow q26o)) (q27b (q27g (bRow q26t)))))))) [false,false,false,false,false,false] [1,2,3] (by decide) (fun _=>rfl)
def qd1:HC (Nat × (Nat × ((List ByteArray) × (ByteArray × (List S118) × ByteArray × (List S55) × (List Int) × Int × Unit × Nat × Unit) × (List (ByteArray × ByteArray)) × Nat × (List S45) × (List S62)))):=hPair (vRow 0) qd2
def qcy (name:ByteArray) (b0:ByteArray) (b0_1:(List S118)) (b0_2:ByteArray) (b0_3:(List S55)) (b0_4:(List Int)) (b0_5:Int) (b0_6:Nat) (b1:(List (ByteArray × ByteArray))) (b2:Nat) (b3:(List S45)) (b4:(List S62)):Option (Nat × (Nat × ((List ByteArray) × (ByteArray × (List S118) × ByteArray × (List S55) × (List Int) × Int × Unit × Nat × Unit) × (List (ByteArray × ByteArray)) × Nat × (List S45) × (List S62)))):=hS Tryz.prog lv X0 104 qd3 qd1 (((),name),((b0,b0_1,b0_2,b0_3,b0_4,b0_5,(),b0_6,()),b1,b2,b3,b4))
def qd4 (name:ByteArray) (b0:ByteArray) (b0_1:(List S118)) (b0_2:ByteArray) (b0_3:(List S55)) (b0_4:(List Int)) (b0_5:Int) (b0_6:Nat) (b1:(List (ByteArray × ByteArray))) (b2:Nat) (b3:(List S45)) (b4:(List S62)):Option (Nat × (Nat × ((List ByteArray) × (ByteArray × (List S118) × ByteArray × (List S55) × (List Int) × Int × Unit × Nat × Unit) × (List (ByteArray × ByteArray)) × Nat × (List S45) × (List S62)))) :=
 (gdE (EC.isL q26s (EC.encL q26s b0_3)) <|
 (Option.bind (qjf (EC.decL q26s (EC.encL q26s b0_3)) name) fun r0 =>
 (gdE (EC.isL q26v (EC.encL q26v r0.2)) <|
 (gdE (EC.isL q26k (EC.encL q26k b0_1)) <|
 (gdE (EC.isL q26s (EC.encL q26s b0_3)) <|
 (gdE (EC.isL q26q (EC.encL q26q b0_4)) <|
 (gdE (EC.isL q26o (EC.encL q26o b3)) <|
 (gdE (EC.isL q26t (EC.encL q26t b4)) <|
 (some (r0.1.1,(r0.1.1,((EC.decL q26v (EC.encL q26v r0.2)),((b0,((EC.decL q26k (EC.encL q26k b0_1)),(b0_2,((EC.decL q26s (EC.encL q26s b0_3)),((EC.decL q26q (EC.encL q26q b0_4)),(b0_5,((),(b0_6,())))))))),(b1,(b2,((EC.decL q26o (EC.encL q26o b3)),(EC.decL q26t (EC.encL q26t b4))))))))))))))))))
theorem qd0 {name} {b0} {b0_1} {b0_2} {b0_3} {b0_4} {b0_5} {b0_6} {b1} {b2} {b3} {b4} {r} (h:qd4 name b0 b0_1 b0_2 b0_3 b0_4 b0_5 b0_6 b1 b2 b3 b4=some r):qcy name b0 b0_1 b0_2 b0_3 b0_4 b0_5 b0_6 b1 b2 b3 b4=some r :=
 qis (fn:=Tryz.f104) (es:=q19p) (hs:=qki) [] (by kernel_rfl) rfl (by kernel_rfl) trivial trivial (by kernel_rfl) h
def qcz:=hentS Tryz.prog lv X0 104 [0,3,0,0,1,1,3,1,9,1,3,1,4,1,3,1,4,1,4,1,1,8,1,2,3,6,48,1,3,2,0,4,1,1,2,4,2,2,0,1,2] qd3 qd1 (fun x=>qcy x.1.2 x.2.1.1 x.2.1.2.1 x.2.1.2.2.1 x.2.1.2.2.2.1 x.2.1.2.2.2.2.1 x.2.1.2.2.2.2.2.1 x.2.1.2.2.2.2.2.2.2.1 x.2.2.1 x.2.2.2.1 x.2.2.2.2.1 x.2.2.2.2.2) (fun _ _ h=>qir h)
def qkg:=qcz::qki
def qdp:=sLS [0,1,2] (q279 (vPtr 0 0) (q279 (vAgg (q279 (vC (cInt .i64)) (q279 (vC (cSl q26p)) (q279 (vC cStr) (q279 (vC (cInt .i64)) (q279 (vC cStr) (q27b (vC (cInt .i64))))))))) (q27b (vRow 1)))) (q279 (q27g (bBox (q279 (vC cStr) (q279 (vC (cSl q26k)) (q279 (vC cStr) (q279 (vC (cSl q26s)) (q279 (vC (cSl q26q)) (q279 (vC (cInt .i64)) (q279 (vMp 2) (q279 (vRow 4) (q27b (vFn 48 (q27b (vPtr 3 0)))))))))))))) (q279 (q27g (bRow q26v)) (q279 (q27g bMap) (q279 (q27g (bBox (q27b (vRow 5)))) (q279 (q27g (bRow q26o)) (q27b (q27g (bRow q26t)))))))) [false,false,false,false,false,false] [0,2,3] (by decide) (fun _=>rfl)
def qdl:=sLS [0,44,45,46] (q279 (vPtr 0 0) (q279 (vRow 1) (q279 (vC (cInt .i64)) (q27b (vC (cInt .i64)))))) (q279 (q27g (bBox (q279 (vC cStr) (q279 (vC (cSl q26k)) (q279 (vC cStr) (q279 (vC (cSl q26s)) (q279 (vC (cSl q26q)) (q279 (vC (cInt .i64)) (q279 (vMp 2) (q279 (vRow 4) (q27b (vFn 48 (q27b (vPtr 3 0)))))))))))))) (q279 (q27g (bRow q26v)) (q279 (q27g bMap) (q279 (q27g (bBox (q27b (vRow 5)))) (q279 (q27g (bRow q26o)) (q27b (q27g (bRow q26t)))))))) [false,false,false,false,false,false] [0,2,3] (by decide) (fun _=>rfl)
def qdk:=sLS [0,44,45,46,47] (q279 (vPtr 0 0) (q279 (vRow 1) (q279 (vC (cInt .i64)) (q279 (vC (cInt .i64)) (q27b (vC cBool)))))) (q279 (q27g (bBox (q279 (vC cStr) (q279 (vC (cSl q26k)) (q279 (vC cStr) (q279 (vC (cSl q26s)) (q279 (vC (cSl q26q)) (q279 (vC (cInt .i64)) (q279 (vMp 2) (q279 (vRow 4) (q27b (vFn 48 (q27b (vPtr 3 0)))))))))))))) (q279 (q27g (bRow q26v)) (q279 (q27g bMap) (q279 (q27g (bBox (q27b (vRow 5)))) (q279 (q27g (bRow q26o)) (q27b (q27g (bRow q26t)))))))) [false,false,false,false,false,false] [0,2,3] (by decide) (fun _=>rfl)
def qdj:=oAt 4 qdk
def qdg (t44:Nat) (t45:Int) (t46:Int) (b0:ByteArray) (b0_1:(List S118)) (b0_2:ByteArray) (b0_3:(List S55)) (b0_4:(List Int)) (b0_5:Int) (b0_6:Nat) (b1:(List ByteArray)) (b2:(List (ByteArray × ByteArray))) (b3:Nat) (b4:(List S45)) (b5:(List S62)):Option ((Unit × Nat × Int × Int × Bool) × ((ByteArray × (List S118) × ByteArray × (List S55) × (List Int) × Int × Unit × Nat × Unit) × (List ByteArray) × (List (ByteArray × ByteArray)) × Nat × (List S45) × (List S62))):=lS Tryz.prog lv X0 103 61 (q270 (cdF Tryz.f103) 9) qdl qdj (((),t44,t45,t46),((b0,b0_1,b0_2,b0_3,b0_4,b0_5,(),b0_6,()),b1,b2,b3,b4,b5))
def qdm (t44:Nat) (t45:Int) (t46:Int) (b0:ByteArray) (b0_1:(List S118)) (b0_2:ByteArray) (b0_3:(List S55)) (b0_4:(List Int)) (b0_5:Int) (b0_6:Nat) (b1:(List ByteArray)) (b2:(List (ByteArray × ByteArray))) (b3:Nat) (b4:(List S45)) (b5:(List S62)):Option ((Unit × Nat × Int × Int × Bool) × ((ByteArray × (List S118) × ByteArray × (List S55) × (List Int) × Int × Unit × Nat × Unit) × (List ByteArray) × (List (ByteArray × ByteArray)) × Nat × (List S45) × (List S62))) :=
 (brE (decide (t46<t45))
 (gdE ((decide (0≤t46))&&(decide (t46<((t44:Nat):Int)))) <|
 (gdE ((decide ((Int.toNat t46)<(List.length (EC.encL q26v b1))))&&((List.length (List.getD (EC.encL q26v b1) (Int.toNat t46) []))==1)) <|
 (gdE (isP [K1.str] 0 (List.getD (EC.encL q26v b1) (Int.toNat t46) [])) <|
 (Option.bind (itoaP (IntKind.wrap .i64 (t46+1))) fun r0 =>
 (gdE (((decide ((ByteArray.size r0)≤Go.maxLen))&&(decide ((ByteArray.size (q27s (List.getD (List.getD (EC.encL q26v b1) (Int.toNat t46) []) 0 C.ne)))≤Go.maxLen)))&&(decide ((List.length b2)<Go.maxLen))) <|
 (gdE (EC.isL q26k (EC.encL q26k b0_1)) <|
 (gdE (EC.isL q26s (EC.encL q26s b0_3)) <|
 (gdE (EC.isL q26q (EC.encL q26q b0_4)) <|
 (gdE (EC.isL q26v (EC.encL q26v b1)) <|
 (gdE (EC.isL q26o (EC.encL q26o b4)) <|
 (gdE (EC.isL q26t (EC.encL q26t b5)) <|
 (qdg t44 t45 (IntKind.wrap .i64 (t46+1)) b0 (EC.decL q26k (EC.encL q26k b0_1)) b0_2 (EC.decL q26s (EC.encL q26s b0_3)) (EC.decL q26q (EC.encL q26q b0_4)) b0_5 b0_6 (EC.decL q26v (EC.encL q26v b1)) (putM b2 r0 (q27s (List.getD (List.getD (EC.encL q26v b1) (Int.toNat t46) []) 0 C.ne))) b3 (EC.decL q26o (EC.encL q26o b4)) (EC.decL q26t (EC.encL q26t b5))))))))))))))
 (gdE (EC.isL q26k (EC.encL q26k b0_1)) <|
 (gdE (EC.isL q26s (EC.encL q26s b0_3)) <|
 (gdE (EC.isL q26q (EC.encL q26q b0_4)) <|
 (gdE (EC.isL q26v (EC.encL q26v b1)) <|
 (gdE (EC.isL q26o (EC.encL q26o b4)) <|
 (gdE (EC.isL q26t (EC.encL q26t b5)) <|
 (some (((),(t44,(t45,(t46,false)))),((b0,((EC.decL q26k (EC.encL q26k b0_1)),(b0_2,((EC.decL q26s (EC.encL q26s b0_3)),((EC.decL q26q (EC.encL q26q b0_4)),(b0_5,((),(b0_6,())))))))),((EC.decL q26v (EC.encL q26v b1)),(b2,(b3,((EC.decL q26o (EC.encL q26o b4)),(EC.decL q26t (EC.encL q26t b5))))))))))))))))
theorem qdi {t44} {t45} {t46} {b0} {b0_1} {b0_2} {b0_3} {b0_4} {b0_5} {b0_6} {b1} {b2} {b3} {b4} {b5} {r} (h:qdm t44 t45 t46 b0 b0_1 b0_2 b0_3 b0_4 b0_5 b0_6 b1 b2 b3 b4 b5=some r):qdg t44 t45 t46 b0 b0_1 b0_2 b0_3 b0_4 b0_5 b0_6 b1 b2 b3 b4 b5=some r :=
 qm5 (es:=q19p) (hs:=qkg) [] (by kernel_rfl) trivial trivial (by kernel_rfl) h
def qdh:=q27d Tryz.prog lv X0 9 (q270 (cdF Tryz.f103) 9) qdl qdj (fun x=>qdg x.1.2.1 x.1.2.2.1 x.1.2.2.2 x.2.1.1 x.2.1.2.1 x.2.1.2.2.1 x.2.1.2.2.2.1 x.2.1.2.2.2.2.1 x.2.1.2.2.2.2.2.1 x.2.1.2.2.2.2.2.2.2.1 x.2.2.1 x.2.2.2.1 x.2.2.2.2.1 x.2.2.2.2.2.1 x.2.2.2.2.2.2) (fun _ _ h=>qm4 h)
def qde:=sLS [0,4,14,15,16] (q279 (vPtr 0 0) (q279 (vPtr 1 0) (q279 (vRow 2) (q279 (vC (cInt .i64)) (q27b (vC (cInt .i64))))))) (q279 (q27g (bBox (q279 (vC cStr) (q279 (vC (cSl q26k)) (q279 (vC cStr) (q279 (vC (cSl q26s)) (q279 (vC (cSl q26q)) (q279 (vC (cInt .i64)) (q279 (vMp 3) (q279 (vRow 5) (q27b (vFn 48 (q27b (vPtr 4 0)))))))))))))) (q279 (q27g (bBox (q279 (vC (cInt .i64)) (q279 (vC (cSl q26p)) (q279 (vC cStr) (q279 (vC (cInt .i64)) (q279 (vC cStr) (q27b (vC (cInt .i64)))))))))) (q279 (q27g (bRow q26v)) (q279 (q27g bMap) (q279 (q27g (bBox (q27b (vRow 6)))) (q279 (q27g (bRow q26o)) (q27b (q27g (bRow q26t))))))))) [false,false,false,false,false,false,false] [0,3,4] (by decide) (fun _=>rfl)
def qdd:=sLS [0,4,14,15,16,17] (q279 (vPtr 0 0) (q279 (vPtr 1 0) (q279 (vRow 2) (q279 (vC (cInt .i64)) (q279 (vC (cInt .i64)) (q27b (vC cBool))))))) (q279 (q27g (bBox (q279 (vC cStr) (q279 (vC (cSl q26k)) (q279 (vC cStr) (q279 (vC (cSl q26s)) (q279 (vC (cSl q26q)) (q279 (vC (cInt .i64)) (q279 (vMp 3) (q279 (vRow 5) (q27b (vFn 48 (q27b (vPtr 4 0)))))))))))))) (q279 (q27g (bBox (q279 (vC (cInt .i64)) (q279 (vC (cSl q26p)) (q279 (vC cStr) (q279 (vC (cInt .i64)) (q279 (vC cStr) (q27b (vC (cInt .i64)))))))))) (q279 (q27g (bRow q26v)) (q279 (q27g bMap) (q279 (q27g (bBox (q27b (vRow 6)))) (q279 (q27g (bRow q26o)) (q27b (q27g (bRow q26t))))))))) [false,false,false,false,false,false,false] [0,3,4] (by decide) (fun _=>rfl)
def qdc:=sLS [6] (q27b (vC cBool)) (q279 (q27g (bBox (q279 (vC cStr) (q279 (vC (cSl q26k)) (q279 (vC cStr) (q279 (vC (cSl q26s)) (q279 (vC (cSl q26q)) (q279 (vC (cInt .i64)) (q279 (vMp 1) (q279 (vRow 3) (q27b (vFn 48 (q27b (vPtr 2 0)))))))))))))) (q279 (q27g bMap) (q279 (q27g (bBox (q27b (vRow 4)))) (q279 (q27g (bRow q26o)) (q27b (q27g (bRow q26t))))))) [false,false,false,false,false] [0,1,2] (by decide) (fun _=>rfl)
def qdb:=oOr 1 qdc (oAt 2 qdd) (fun x=>(by decide:(2:Nat)≠1))
def qd8 (t14:Nat) (t15:Int) (t16:Int) (b0:ByteArray) (b0_1:(List S118)) (b0_2:ByteArray) (b0_3:(List S55)) (b0_4:(List Int)) (b0_5:Int) (b0_6:Nat) (b1:Int) (b1_1:(List S48)) (b1_2:ByteArray) (b1_3:Int) (b1_4:ByteArray) (b1_5:Int) (b2:(List ByteArray)) (b3:(List (ByteArray × ByteArray))) (b4:Nat) (b5:(List S45)) (b6:(List S62)):Option ((Bool × ((ByteArray × (List S118) × ByteArray × (List S55) × (List Int) × Int × Unit × Nat × Unit) × (List (ByteArray × ByteArray)) × Nat × (List S45) × (List S62))) ⊕ ((Unit × Unit × Nat × Int × Int × Bool) × ((ByteArray × (List S118) × ByteArray × (List S55) × (List Int) × Int × Unit × Nat × Unit) × (Int × (List S48) × ByteArray × Int × ByteArray × Int) × (List ByteArray) × (List (ByteArray × ByteArray)) × Nat × (List S45) × (List S62)))):=lS Tryz.prog lv X0 103 61 (q270 (cdF Tryz.f103) 2) qde qdb (((),(),t14,t15,t16),((b0,b0_1,b0_2,b0_3,b0_4,b0_5,(),b0_6,()),(b1,b1_1,b1_2,b1_3,b1_4,b1_5),b2,b3,b4,b5,b6))
def qdf (t14:Nat) (t15:Int) (t16:Int) (b0:ByteArray) (b0_1:(List S118)) (b0_2:ByteArray) (b0_3:(List S55)) (b0_4:(List Int)) (b0_5:Int) (b0_6:Nat) (b1:Int) (b1_1:(List S48)) (b1_2:ByteArray) (b1_3:Int) (b1_4:ByteArray) (b1_5:Int) (b2:(List ByteArray)) (b3:(List (ByteArray × ByteArray))) (b4:Nat) (b5:(List S45)) (b6:(List S62)):Option ((Bool × ((ByteArray × (List S118) × ByteArray × (List S55) × (List Int) × Int × Unit × Nat × Unit) × (List (ByteArray × ByteArray)) × Nat × (List S45) × (List S62))) ⊕ ((Unit × Unit × Nat × Int × Int × Bool) × ((ByteArray × (List S118) × ByteArray × (List S55) × (List Int) × Int × Unit × Nat × Unit) × (Int × (List S48) × ByteArray × Int × ByteArray × Int) × (List ByteArray) × (List (ByteArray × ByteArray)) × Nat × (List S45) × (List S62)))) :=
 (brE (decide (t16<t15))
 (gdE ((decide (0≤t16))&&(decide (t16<((t14:Nat):Int)))) <|
 (gdE ((decide ((Int.toNat t16)<(List.length (EC.encL q26v b2))))&&((List.length (List.getD (EC.encL q26v b2) (Int.toNat t16) []))==1)) <|
 (gdE (isP [K1.str] 0 (List.getD (EC.encL q26v b2) (Int.toNat t16) [])) <|
 (Option.bind (qq0 b1_3 b1_4 (q27s (List.getD (List.getD (EC.encL q26v b2) (Int.toNat t16) []) 0 C.ne))) fun r0 =>
 (Option.bind (q57 r0.1.2.2.1 r0.1.2.2.2) fun r1 =>
 (brE (r1==false)
 (brE (!r0.1.1)
 (gdE (EC.isL q26k (EC.encL q26k b0_1)) <|
 (gdE (EC.isL q26s (EC.encL q26s b0_3)) <|
 (gdE (EC.isL q26q (EC.encL q26q b0_4)) <|
 (gdE (EC.isL q26p (EC.encL q26p b1_1)) <|
 (gdE (EC.isL q26v (EC.encL q26v b2)) <|
 (gdE (EC.isL q26o (EC.encL q26o b5)) <|
 (gdE (EC.isL q26t (EC.encL q26t b6)) <|
 (qd8 t14 t15 (IntKind.wrap .i64 (t16+1)) b0 (EC.decL q26k (EC.encL q26k b0_1)) b0_2 (EC.decL q26s (EC.encL q26s b0_3)) (EC.decL q26q (EC.encL q26q b0_4)) b0_5 b0_6 b1 (EC.decL q26p (EC.encL q26p b1_1)) b1_2 b1_3 b1_4 b1_5 (EC.decL q26v (EC.encL q26v b2)) b3 b4 (EC.decL q26o (EC.encL q26o b5)) (EC.decL q26t (EC.encL q26t b6))))))))))
 (brE (b1_3==3)
 (Option.bind (delP b3) fun r2 =>
 (gdE (EC.isL q26k (EC.encL q26k b0_1)) <|
 (gdE (EC.isL q26s (EC.encL q26s b0_3)) <|
 (gdE (EC.isL q26q (EC.encL q26q b0_4)) <|
 (gdE (EC.isL q26v (EC.encL q26v r0.2)) <|
 (gdE (EC.isL q26o (EC.encL q26o b5)) <|
 (gdE (EC.isL q26t (EC.encL q26t b6)) <|
 (Option.bind (qdg r0.1.2.1 ((r0.1.2.1:Nat):Int) 0 b0 (EC.decL q26k (EC.encL q26k b0_1)) b0_2 (EC.decL q26s (EC.encL q26s b0_3)) (EC.decL q26q (EC.encL q26q b0_4)) b0_5 b0_6 (EC.decL q26v (EC.encL q26v r0.2)) r2 b4 (EC.decL q26o (EC.encL q26o b5)) (EC.decL q26t (EC.encL q26t b6))) fun r3 =>
 (gdE (EC.isL q26k (EC.encL q26k r3.2.1.2.1)) <|
 (gdE (EC.isL q26s (EC.encL q26s r3.2.1.2.2.2.1)) <|
 (gdE (EC.isL q26q (EC.encL q26q r3.2.1.2.2.2.2.1)) <|
 (gdE (EC.isL q26o (EC.encL q26o r3.2.2.2.2.2.1)) <|
 (gdE (EC.isL q26t (EC.encL q26t r3.2.2.2.2.2.2)) <|
 (some (.inl (true,((r3.2.1.1,((EC.decL q26k (EC.encL q26k r3.2.1.2.1)),(r3.2.1.2.2.1,((EC.decL q26s (EC.encL q26s r3.2.1.2.2.2.1)),((EC.decL q26q (EC.encL q26q r3.2.1.2.2.2.2.1)),(r3.2.1.2.2.2.2.2.1,((),(r3.2.1.2.2.2.2.2.2.2.1,())))))))),(r3.2.2.2.1,(r3.2.2.2.2.1,((EC.decL q26o (EC.encL q26o r3.2.2.2.2.2.1)),(EC.decL q26t (EC.encL q26t r3.2.2.2.2.2.2))))))))))))))))))))))
 (gdE (EC.isL q26k (EC.encL q26k b0_1)) <|
 (gdE (EC.isL q26s (EC.encL q26s b0_3)) <|
 (gdE (EC.isL q26q (EC.encL q26q b0_4)) <|
 (gdE (EC.isL q26o (EC.encL q26o b5)) <|
 (gdE (EC.isL q26t (EC.encL q26t b6)) <|
 (some (.inl (true,((b0,((EC.decL q26k (EC.encL q26k b0_1)),(b0_2,((EC.decL q26s (EC.encL q26s b0_3)),((EC.decL q26q (EC.encL q26q b0_4)),(b0_5,((),(b0_6,())))))))),(b3,(b4,((EC.decL q26o (EC.encL q26o b5)),(EC.decL q26t (EC.encL q26t b6))))))))))))))))
 (gdE (EC.isL q26k (EC.encL q26k b0_1)) <|
 (gdE (EC.isL q26s (EC.encL q26s b0_3)) <|
 (gdE (EC.isL q26q (EC.encL q26q b0_4)) <|
 (gdE (EC.isL q26p (EC.encL q26p b1_1)) <|
 (gdE (EC.isL q26v (EC.encL q26v b2)) <|
 (gdE (EC.isL q26o (EC.encL q26o b5)) <|
 (gdE (EC.isL q26t (EC.encL q26t b6)) <|
 (qd8 t14 t15 (IntKind.wrap .i64 (t16+1)) b0 (EC.decL q26k (EC.encL q26k b0_1)) b0_2 (EC.decL q26s (EC.encL q26s b0_3)) (EC.decL q26q (EC.encL q26q b0_4)) b0_5 b0_6 b1 (EC.decL q26p (EC.encL q26p b1_1)) b1_2 b1_3 b1_4 b1_5 (EC.decL q26v (EC.encL q26v b2)) b3 b4 (EC.decL q26o (EC.encL q26o b5)) (EC.decL q26t (EC.encL q26t b6))))))))))))))))
 (gdE (EC.isL q26k (EC.encL q26k b0_1)) <|
 (gdE (EC.isL q26s (EC.encL q26s b0_3)) <|
 (gdE (EC.isL q26q (EC.encL q26q b0_4)) <|
 (gdE (EC.isL q26p (EC.encL q26p b1_1)) <|
 (gdE (EC.isL q26v (EC.encL q26v b2)) <|
 (gdE (EC.isL q26o (EC.encL q26o b5)) <|
 (gdE (EC.isL q26t (EC.encL q26t b6)) <|
 (some (.inr (((),((),(t14,(t15,(t16,false))))),((b0,((EC.decL q26k (EC.encL q26k b0_1)),(b0_2,((EC.decL q26s (EC.encL q26s b0_3)),((EC.decL q26q (EC.encL q26q b0_4)),(b0_5,((),(b0_6,())))))))),((b1,((EC.decL q26p (EC.encL q26p b1_1)),(b1_2,(b1_3,(b1_4,b1_5))))),((EC.decL q26v (EC.encL q26v b2)),(b3,(b4,((EC.decL q26o (EC.encL q26o b5)),(EC.decL q26t (EC.encL q26t b6)))))))))))))))))))
theorem qda {t14} {t15} {t16} {b0} {b0_1} {b0_2} {b0_3} {b0_4} {b0_5} {b0_6} {b1} {b1_1} {b1_2} {b1_3} {b1_4} {b1_5} {b2} {b3} {b4} {b5} {b6} {r} (h:qdf t14 t15 t16 b0 b0_1 b0_2 b0_3 b0_4 b0_5 b0_6 b1 b1_1 b1_2 b1_3 b1_4 b1_5 b2 b3 b4 b5 b6=some r):qd8 t14 t15 t16 b0 b0_1 b0_2 b0_3 b0_4 b0_5 b0_6 b1 b1_1 b1_2 b1_3 b1_4 b1_5 b2 b3 b4 b5 b6=some r :=
 qm5 (es:=q19p) (hs:=qkg) [qdh] (by kernel_rfl) ⟨⟨_,rfl,rfl⟩,trivial⟩ trivial (by kernel_rfl) h
def qd9:=q27d Tryz.prog lv X0 2 (q270 (cdF Tryz.f103) 2) qde qdb (fun x=>qd8 x.1.2.2.1 x.1.2.2.2.1 x.1.2.2.2.2 x.2.1.1 x.2.1.2.1 x.2.1.2.2.1 x.2.1.2.2.2.1 x.2.1.2.2.2.2.1 x.2.1.2.2.2.2.2.1 x.2.1.2.2.2.2.2.2.2.1 x.2.2.1.1 x.2.2.1.2.1 x.2.2.1.2.2.1 x.2.2.1.2.2.2.1 x.2.2.1.2.2.2.2.1 x.2.2.1.2.2.2.2.2 x.2.2.2.1 x.2.2.2.2.1 x.2.2.2.2.2.1 x.2.2.2.2.2.2.1 x.2.2.2.2.2.2.2) (fun _ _ h=>qm4 h)
def qdo:SC (Bool × ((ByteArray × (List S118) × ByteArray × (List S55) × (List Int) × Int × Unit × Nat × Unit) × (List (ByteArray × ByteArray)) × Nat × (List S45) × (List S62))):=sLS [0] (q27b (vC cBool)) (q279 (q27g (bBox (q279 (vC cStr) (q279 (vC (cSl q26k)) (q279 (vC cStr) (q279 (vC (cSl q26s)) (q279 (vC (cSl q26q)) (q279 (vC (cInt .i64)) (q279 (vMp 1) (q279 (vRow 3) (q27b (vFn 48 (q27b (vPtr 2 0)))))))))))))) (q279 (q27g bMap) (q279 (q27g (bBox (q27b (vRow 4)))) (q279 (q27g (bRow q26o)) (q27b (q27g (bRow q26t))))))) [false,false,false,false,false] [0,1,2] (by decide) (fun _=>rfl)
def qdn:HC (Bool × (Bool × ((ByteArray × (List S118) × ByteArray × (List S55) × (List Int) × Int × Unit × Nat × Unit) × (List (ByteArray × ByteArray)) × Nat × (List S45) × (List S62)))):=hPair (vC cBool) qdo
def qd5 (t:Int) (t_1:(List S48)) (t_2:ByteArray) (t_3:Int) (t_4:ByteArray) (t_5:Int) (l:Nat) (b0:ByteArray) (b0_1:(List S118)) (b0_2:ByteArray) (b0_3:(List S55)) (b0_4:(List Int)) (b0_5:Int) (b0_6:Nat) (b1:(List ByteArray)) (b2:(List (ByteArray × ByteArray))) (b3:Nat) (b4:(List S45)) (b5:(List S62)):Option (Bool × (Bool × ((ByteArray × (List S118) × ByteArray × (List S55) × (List Int) × Int × Unit × Nat × Unit) × (List (ByteArray × ByteArray)) × Nat × (List S45) × (List S62)))):=hS Tryz.prog lv X0 103 qdp qdn (((),(t,t_1,t_2,t_3,t_4,t_5),l),((b0,b0_1,b0_2,b0_3,b0_4,b0_5,(),b0_6,()),b1,b2,b3,b4,b5))
def qdq (t:Int) (t_1:(List S48)) (t_2:ByteArray) (t_3:Int) (t_4:ByteArray) (t_5:Int) (l:Nat) (b0:ByteArray) (b0_1:(List S118)) (b0_2:ByteArray) (b0_3:(List S55)) (b0_4:(List Int)) (b0_5:Int) (b0_6:Nat) (b1:(List ByteArray)) (b2:(List (ByteArray × ByteArray))) (b3:Nat) (b4:(List S45)) (b5:(List S62)):Option (Bool × (Bool × ((ByteArray × (List S118) × ByteArray × (List S55) × (List Int) × Int × Unit × Nat × Unit) × (List (ByteArray × ByteArray)) × Nat × (List S45) × (List S62)))) :=
 (gdE (EC.isL q26k (EC.encL q26k b0_1)) <|
 (gdE (EC.isL q26s (EC.encL q26s b0_3)) <|
 (gdE (EC.isL q26q (EC.encL q26q b0_4)) <|
 (gdE (EC.isL q26p (EC.encL q26p t_1)) <|
 (gdE (EC.isL q26v (EC.encL q26v b1)) <|
 (gdE (EC.isL q26o (EC.encL q26o b4)) <|
 (gdE (EC.isL q26t (EC.encL q26t b5)) <|
 (Option.bind (qd8 l ((l:Nat):Int) 0 b0 (EC.decL q26k (EC.encL q26k b0_1)) b0_2 (EC.decL q26s (EC.encL q26s b0_3)) (EC.decL q26q (EC.encL q26q b0_4)) b0_5 b0_6 t (EC.decL q26p (EC.encL q26p t_1)) t_2 t_3 t_4 t_5 (EC.decL q26v (EC.encL q26v b1)) b2 b3 (EC.decL q26o (EC.encL q26o b4)) (EC.decL q26t (EC.encL q26t b5))) fun r0 =>
 (Sum.elim (fun r1=>(gdE (EC.isL q26k (EC.encL q26k r1.2.1.2.1)) <|
 (gdE (EC.isL q26s (EC.encL q26s r1.2.1.2.2.2.1)) <|
 (gdE (EC.isL q26q (EC.encL q26q r1.2.1.2.2.2.2.1)) <|
 (gdE (EC.isL q26o (EC.encL q26o r1.2.2.2.2.1)) <|
 (gdE (EC.isL q26t (EC.encL q26t r1.2.2.2.2.2)) <|
 (some (r1.1,(r1.1,((r1.2.1.1,((EC.decL q26k (EC.encL q26k r1.2.1.2.1)),(r1.2.1.2.2.1,((EC.decL q26s (EC.encL q26s r1.2.1.2.2.2.1)),((EC.decL q26q (EC.encL q26q r1.2.1.2.2.2.2.1)),(r1.2.1.2.2.2.2.2.1,((),(r1.2.1.2.2.2.2.2.2.2.1,())))))))),(r1.2.2.1,(r1.2.2.2.1,((EC.decL q26o (EC.encL q26o r1.2.2.2.2.1)),(EC.decL q26t (EC.encL q26t r1.2.2.2.2.2)))))))))))))))
 (fun r1=>(gdE (EC.isL q26k (EC.encL q26k r1.2.1.2.1)) <|
 (gdE (EC.isL q26s (EC.encL q26s r1.2.1.2.2.2.1)) <|
 (gdE (EC.isL q26q (EC.encL q26q r1.2.1.2.2.2.2.1)) <|
 (gdE (EC.isL q26o (EC.encL q26o r1.2.2.2.2.2.2.1)) <|
 (gdE (EC.isL q26t (EC.encL q26t r1.2.2.2.2.2.2.2)) <|
 (some (false,(false,((r1.2.1.1,((EC.decL q26k (EC.encL q26k r1.2.1.2.1)),(r1.2.1.2.2.1,((EC.decL q26s (EC.encL q26s r1.2.1.2.2.2.1)),((EC.decL q26q (EC.encL q26q r1.2.1.2.2.2.2.1)),(r1.2.1.2.2.2.2.2.1,((),(r1.2.1.2.2.2.2.2.2.2.1,())))))))),(r1.2.2.2.2.1,(r1.2.2.2.2.2.1,((EC.decL q26o (EC.encL q26o r1.2.2.2.2.2.2.1)),(EC.decL q26t (EC.encL q26t r1.2.2.2.2.2.2.2))))))))))))))) r0)))))))))
theorem qd7 {t} {t_1} {t_2} {t_3} {t_4} {t_5} {l} {b0} {b0_1} {b0_2} {b0_3} {b0_4} {b0_5} {b0_6} {b1} {b2} {b3} {b4} {b5} {r} (h:qdq t t_1 t_2 t_3 t_4 t_5 l b0 b0_1 b0_2 b0_3 b0_4 b0_5 b0_6 b1 b2 b3 b4 b5=some r):qd5 t t_1 t_2 t_3 t_4 t_5 l b0 b0_1 b0_2 b0_3 b0_4 b0_5 b0_6 b1 b2 b3 b4 b5=some r :=
 qis (fn:=Tryz.f103) (es:=q19p) (hs:=qkg) [qd9] (by kernel_rfl) rfl (by kernel_rfl) ⟨⟨_,rfl,rfl⟩,trivial⟩ trivial (by kernel_rfl) h
def qd6:=hentS Tryz.prog lv X0 103 [0,3,0,0,1,7,6,1,1,1,4,1,3,1,1,1,3,1,1,2,2,1,1,9,1,3,1,4,1,3,1,4,1,4,1,1,8,2,2,4,6,48,1,3,3,0,2,4,1,1,2,5,2,2,0,2,3] qdp qdn (fun x=>qd5 x.1.2.1.1 x.1.2.1.2.1 x.1.2.1.2.2.1 x.1.2.1.2.2.2.1 x.1.2.1.2.2.2.2.1 x.1.2.1.2.2.2.2.2 x.1.2.2 x.2.1.1 x.2.1.2.1 x.2.1.2.2.1 x.2.1.2.2.2.1 x.2.1.2.2.2.2.1 x.2.1.2.2.2.2.2.1 x.2.1.2.2.2.2.2.2.2.1 x.2.2.1 x.2.2.2.1 x.2.2.2.2.1 x.2.2.2.2.2.1 x.2.2.2.2.2.2) (fun _ _ h=>qir h)
def qkh:=qd6::qkg
def qe7:=sLS [0,3,25,26,27] (q279 (vPtr 0 0) (q279 (vPtr 1 0) (q279 (vC (cSl q26p)) (q279 (vC (cInt .i64)) (q27b (vC (cInt .i64))))))) (q279 (q27g (bBox (q279 (vC cStr) (q279 (vC (cSl q26k)) (q279 (vC cStr) (q279 (vC (cSl q26s)) (q279 (vC (cSl q26q)) (q279 (vC (cInt .i64)) (q279 (vMp 2) (q279 (vRow 4) (q27b (vFn 48 (q27b (vPtr 3 0)))))))))))))) (q279 (q27g (bBox (q279 (vC (cInt .i64)) (q279 (vC (cSl q26p)) (q279 (vC cStr) (q279 (vC (cInt .i64)) (q279 (vC cStr) (q27b (vC (cInt .i64)))))))))) (q279 (q27g bMap) (q279 (q27g (bBox (q27b (vRow 5)))) (q279 (q27g (bRow q26o)) (q27b (q27g (bRow q26t)))))))) [false,false,false,false,false,false] [0,2,3] (by decide) (fun _=>rfl)
def qe6:=sLS [0,3,25,26,27,28] (q279 (vPtr 0 0) (q279 (vPtr 1 0) (q279 (vC (cSl q26p)) (q279 (vC (cInt .i64)) (q279 (vC (cInt .i64)) (q27b (vC cBool))))))) (q279 (q27g (bBox (q279 (vC cStr) (q279 (vC (cSl q26k)) (q279 (vC cStr) (q279 (vC (cSl q26s)) (q279 (vC (cSl q26q)) (q279 (vC (cInt .i64)) (q279 (vMp 2) (q279 (vRow 4) (q27b (vFn 48 (q27b (vPtr 3 0)))))))))))))) (q279 (q27g (bBox (q279 (vC (cInt .i64)) (q279 (vC (cSl q26p)) (q279 (vC cStr) (q279 (vC (cInt .i64)) (q279 (vC cStr) (q27b (vC (cInt .i64)))))))))) (q279 (q27g bMap) (q279 (q27g (bBox (q27b (vRow 5)))) (q279 (q27g (bRow q26o)) (q27b (q27g (bRow q26t)))))))) [false,false,false,false,false,false] [0,2,3] (by decide) (fun _=>rfl)
def qe5:=sLS [4] (q27b (vC cBool)) (q279 (q27g (bBox (q279 (vC cStr) (q279 (vC (cSl q26k)) (q279 (vC cStr) (q279 (vC (cSl q26s)) (q279 (vC (cSl q26q)) (q279 (vC (cInt .i64)) (q279 (vMp 1) (q279 (vRow 3) (q27b (vFn 48 (q27b (vPtr 2 0)))))))))))))) (q279 (q27g bMap) (q279 (q27g (bBox (q27b (vRow 4)))) (q279 (q27g (bRow q26o)) (q27b (q27g (bRow q26t))))))) [false,false,false,false,false] [0,1,2] (by decide) (fun _=>rfl)
def qe4:=oOr 1 qe5 (oAt 3 qe6) (fun x=>(by decide:(3:Nat)≠1))
def qe1 (t25:(List S48)) (t26:Int) (t27:Int) (b0:ByteArray) (b0_1:(List S118)) (b0_2:ByteArray) (b0_3:(List S55)) (b0_4:(List Int)) (b0_5:Int) (b0_6:Nat) (b1:Int) (b1_1:(List S48)) (b1_2:ByteArray) (b1_3:Int) (b1_4:ByteArray) (b1_5:Int) (b2:(List (ByteArray × ByteArray))) (b3:Nat) (b4:(List S45)) (b5:(List S62)):Option ((Bool × ((ByteArray × (List S118) × ByteArray × (List S55) × (List Int) × Int × Unit × Nat × Unit) × (List (ByteArray × ByteArray)) × Nat × (List S45) × (List S62))) ⊕ ((Unit × Unit × (List S48) × Int × Int × Bool) × ((ByteArray × (List S118) × ByteArray × (List S55) × (List Int) × Int × Unit × Nat × Unit) × (Int × (List S48) × ByteArray × Int × ByteArray × Int) × (List (ByteArray × ByteArray)) × Nat × (List S45) × (List S62)))):=lS Tryz.prog lv X0 80 106 (q270 (cdF Tryz.f80) 7) qe7 qe4 (((),(),t25,t26,t27),((b0,b0_1,b0_2,b0_3,b0_4,b0_5,(),b0_6,()),(b1,b1_1,b1_2,b1_3,b1_4,b1_5),b2,b3,b4,b5))
def qe8 (t25:(List S48)) (t26:Int) (t27:Int) (b0:ByteArray) (b0_1:(List S118)) (b0_2:ByteArray) (b0_3:(List S55)) (b0_4:(List Int)) (b0_5:Int) (b0_6:Nat) (b1:Int) (b1_1:(List S48)) (b1_2:ByteArray) (b1_3:Int) (b1_4:ByteArray) (b1_5:Int) (b2:(List (ByteArray × ByteArray))) (b3:Nat) (b4:(List S45)) (b5:(List S62)):Option ((Bool × ((ByteArray × (List S118) × ByteArray × (List S55) × (List Int) × Int × Unit × Nat × Unit) × (List (ByteArray × ByteArray)) × Nat × (List S45) × (List S62))) ⊕ ((Unit × Unit × (List S48) × Int × Int × Bool) × ((ByteArray × (List S118) × ByteArray × (List S55) × (List Int) × Int × Unit × Nat × Unit) × (Int × (List S48) × ByteArray × Int × ByteArray × Int) × (List (ByteArray × ByteArray)) × Nat × (List S45) × (List S62)))) :=
 (brE (decide (t27<t26))
 (gdE (decide (0≤t27)) <|
 (gdE ((decide ((Int.toNat t27)<(List.length (EC.encL q26p t25))))&&(isE [(K1.int Go.IntKind.i64),K1.sl,K1.str,(K1.int Go.IntKind.i64),K1.str,(K1.int Go.IntKind.i64)] 0 (List.getD (EC.encL q26p t25) (Int.toNat t27) []))) <|
 (gdE (EC.isL q26p (slOf (List.getD (List.getD (EC.encL q26p t25) (Int.toNat t27) []) 1 C.ne))) <|
 (gdE (EC.isL q26k (EC.encL q26k b0_1)) <|
 (gdE (EC.isL q26s (EC.encL q26s b0_3)) <|
 (gdE (EC.isL q26q (EC.encL q26q b0_4)) <|
 (gdE (EC.isL q26o (EC.encL q26o b4)) <|
 (gdE (EC.isL q26t (EC.encL q26t b5)) <|
 (Option.bind (qdr (q273 (List.getD (List.getD (EC.encL q26p t25) (Int.toNat t27) []) 0 C.ne)) (EC.decL q26p (slOf (List.getD (List.getD (EC.encL q26p t25) (Int.toNat t27) []) 1 C.ne))) (q27s (List.getD (List.getD (EC.encL q26p t25) (Int.toNat t27) []) 2 C.ne)) (q273 (List.getD (List.getD (EC.encL q26p t25) (Int.toNat t27) []) 3 C.ne)) (q27s (List.getD (List.getD (EC.encL q26p t25) (Int.toNat t27) []) 4 C.ne)) (q273 (List.getD (List.getD (EC.encL q26p t25) (Int.toNat t27) []) 5 C.ne)) b0 (EC.decL q26k (EC.encL q26k b0_1)) b0_2 (EC.decL q26s (EC.encL q26s b0_3)) (EC.decL q26q (EC.encL q26q b0_4)) b0_5 b0_6 b2 b3 (EC.decL q26o (EC.encL q26o b4)) (EC.decL q26t (EC.encL q26t b5))) fun r0 =>
 (brE (r0.1==(b1==4))
 (gdE (EC.isL q26k (EC.encL q26k r0.2.2.1.2.1)) <|
 (gdE (EC.isL q26s (EC.encL q26s r0.2.2.1.2.2.2.1)) <|
 (gdE (EC.isL q26q (EC.encL q26q r0.2.2.1.2.2.2.2.1)) <|
 (gdE (EC.isL q26o (EC.encL q26o r0.2.2.2.2.2.1)) <|
 (gdE (EC.isL q26t (EC.encL q26t r0.2.2.2.2.2.2)) <|
 (some (.inl ((b1==4),((r0.2.2.1.1,((EC.decL q26k (EC.encL q26k r0.2.2.1.2.1)),(r0.2.2.1.2.2.1,((EC.decL q26s (EC.encL q26s r0.2.2.1.2.2.2.1)),((EC.decL q26q (EC.encL q26q r0.2.2.1.2.2.2.2.1)),(r0.2.2.1.2.2.2.2.2.1,((),(r0.2.2.1.2.2.2.2.2.2.2.1,())))))))),(r0.2.2.2.1,(r0.2.2.2.2.1,((EC.decL q26o (EC.encL q26o r0.2.2.2.2.2.1)),(EC.decL q26t (EC.encL q26t r0.2.2.2.2.2.2))))))))))))))
 (gdE (EC.isL q26p (EC.encL q26p t25)) <|
 (gdE (EC.isL q26k (EC.encL q26k r0.2.2.1.2.1)) <|
 (gdE (EC.isL q26s (EC.encL q26s r0.2.2.1.2.2.2.1)) <|
 (gdE (EC.isL q26q (EC.encL q26q r0.2.2.1.2.2.2.2.1)) <|
 (gdE (EC.isL q26p (EC.encL q26p b1_1)) <|
 (gdE (EC.isL q26o (EC.encL q26o r0.2.2.2.2.2.1)) <|
 (gdE (EC.isL q26t (EC.encL q26t r0.2.2.2.2.2.2)) <|
 (qe1 (EC.decL q26p (EC.encL q26p t25)) t26 (IntKind.wrap .i64 (t27+1)) r0.2.2.1.1 (EC.decL q26k (EC.encL q26k r0.2.2.1.2.1)) r0.2.2.1.2.2.1 (EC.decL q26s (EC.encL q26s r0.2.2.1.2.2.2.1)) (EC.decL q26q (EC.encL q26q r0.2.2.1.2.2.2.2.1)) r0.2.2.1.2.2.2.2.2.1 r0.2.2.1.2.2.2.2.2.2.2.1 b1 (EC.decL q26p (EC.encL q26p b1_1)) b1_2 b1_3 b1_4 b1_5 r0.2.2.2.1 r0.2.2.2.2.1 (EC.decL q26o (EC.encL q26o r0.2.2.2.2.2.1)) (EC.decL q26t (EC.encL q26t r0.2.2.2.2.2.2))))))))))))))))))))
 (gdE (EC.isL q26p (EC.encL q26p t25)) <|
 (gdE (EC.isL q26k (EC.encL q26k b0_1)) <|
 (gdE (EC.isL q26s (EC.encL q26s b0_3)) <|
 (gdE (EC.isL q26q (EC.encL q26q b0_4)) <|
 (gdE (EC.isL q26p (EC.encL q26p b1_1)) <|
 (gdE (EC.isL q26o (EC.encL q26o b4)) <|
 (gdE (EC.isL q26t (EC.encL q26t b5)) <|
 (some (.inr (((),((),((EC.decL q26p (EC.encL q26p t25)),(t26,(t27,false))))),((b0,((EC.decL q26k (EC.encL q26k b0_1)),(b0_2,((EC.decL q26s (EC.encL q26s b0_3)),((EC.decL q26q (EC.encL q26q b0_4)),(b0_5,((),(b0_6,())))))))),((b1,((EC.decL q26p (EC.encL q26p b1_1)),(b1_2,(b1_3,(b1_4,b1_5))))),(b2,(b3,((EC.decL q26o (EC.encL q26o b4)),(EC.decL q26t (EC.encL q26t b5))))))))))))))))))
theorem qe3 {t25} {t26} {t27} {b0} {b0_1} {b0_2} {b0_3} {b0_4} {b0_5} {b0_6} {b1} {b1_1} {b1_2} {b1_3} {b1_4} {b1_5} {b2} {b3} {b4} {b5} {r} (h:qe8 t25 t26 t27 b0 b0_1 b0_2 b0_3 b0_4 b0_5 b0_6 b1 b1_1 b1_2 b1_3 b1_4 b1_5 b2 b3 b4 b5=some r):qe1 t25 t26 t27 b0 b0_1 b0_2 b0_3 b0_4 b0_5 b0_6 b1 b1_1 b1_2 b1_3 b1_4 b1_5 b2 b3 b4 b5=some r :=
 qm5 (es:=q19p) (hs:=qkh) [] (by kernel_rfl) trivial trivial (by kernel_rfl) h
def qe2:=q27d Tryz.prog lv X0 7 (q270 (cdF Tryz.f80) 7) qe7 qe4 (fun x=>qe1 x.1.2.2.1 x.1.2.2.2.1 x.1.2.2.2.2 x.2.1.1 x.2.1.2.1 x.2.1.2.2.1 x.2.1.2.2.2.1 x.2.1.2.2.2.2.1 x.2.1.2.2.2.2.2.1 x.2.1.2.2.2.2.2.2.2.1 x.2.2.1.1 x.2.2.1.2.1 x.2.2.1.2.2.1 x.2.2.1.2.2.2.1 x.2.2.1.2.2.2.2.1 x.2.2.1.2.2.2.2.2 x.2.2.2.1 x.2.2.2.2.1 x.2.2.2.2.2.1 x.2.2.2.2.2.2) (fun _ _ h=>qm4 h)
def qdz:=sLS [0,3,7,73,74,75] (q279 (vPtr 0 0) (q279 (vPtr 1 0) (q279 (vRow 2) (q279 (vC (cSl q26k)) (q279 (vC (cInt .i64)) (q27b (vC (cInt .i64)))))))) (q279 (q27g (bBox (q279 (vC cStr) (q279 (vC (cSl q26k)) (q279 (vC cStr) (q279 (vC (cSl q26s)) (q279 (vC (cSl q26q)) (q279 (vC (cInt .i64)) (q279 (vMp 3) (q279 (vRow 5) (q27b (vFn 48 (q27b (vPtr 4 0)))))))))))))) (q279 (q27g (bBox (q279 (vC (cInt .i64)) (q279 (vC (cSl q26p)) (q279 (vC cStr) (q279 (vC (cInt .i64)) (q279 (vC cStr) (q27b (vC (cInt .i64)))))))))) (q279 (q27g (bRow q26v)) (q279 (q27g bMap) (q279 (q27g (bBox (q27b (vRow 6)))) (q279 (q27g (bRow q26o)) (q27b (q27g (bRow q26t))))))))) [false,false,false,false,false,false,false] [0,3,4] (by decide) (fun _=>rfl)
def qdy:=sLS [0,3,7,73,74,75,76] (q279 (vPtr 0 0) (q279 (vPtr 1 0) (q279 (vRow 2) (q279 (vC (cSl q26k)) (q279 (vC (cInt .i64)) (q279 (vC (cInt .i64)) (q27b (vC cBool)))))))) (q279 (q27g (bBox (q279 (vC cStr) (q279 (vC (cSl q26k)) (q279 (vC cStr) (q279 (vC (cSl q26s)) (q279 (vC (cSl q26q)) (q279 (vC (cInt .i64)) (q279 (vMp 3) (q279 (vRow 5) (q27b (vFn 48 (q27b (vPtr 4 0)))))))))))))) (q279 (q27g (bBox (q279 (vC (cInt .i64)) (q279 (vC (cSl q26p)) (q279 (vC cStr) (q279 (vC (cInt .i64)) (q279 (vC cStr) (q27b (vC (cInt .i64)))))))))) (q279 (q27g (bRow q26v)) (q279 (q27g bMap) (q279 (q27g (bBox (q27b (vRow 6)))) (q279 (q27g (bRow q26o)) (q27b (q27g (bRow q26t))))))))) [false,false,false,false,false,false,false] [0,3,4] (by decide) (fun _=>rfl)
def qdx:=oAt 5 qdy
def qdu (l:Nat) (t73:(List S118)) (t74:Int) (t75:Int) (b0:ByteArray) (b0_1:(List S118)) (b0_2:ByteArray) (b0_3:(List S55)) (b0_4:(List Int)) (b0_5:Int) (b0_6:Nat) (b1:Int) (b1_1:(List S48)) (b1_2:ByteArray) (b1_3:Int) (b1_4:ByteArray) (b1_5:Int) (b2:(List ByteArray)) (b3:(List (ByteArray × ByteArray))) (b4:Nat) (b5:(List S45)) (b6:(List S62)):Option ((Unit × Unit × Nat × (List S118) × Int × Int × Bool) × ((ByteArray × (List S118) × ByteArray × (List S55) × (List Int) × Int × Unit × Nat × Unit) × (Int × (List S48) × ByteArray × Int × ByteArray × Int) × (List ByteArray) × (List (ByteArray × ByteArray)) × Nat × (List S45) × (List S62))):=lS Tryz.prog lv X0 80 106 (q270 (cdF Tryz.f80) 20) qdz qdx (((),(),l,t73,t74,t75),((b0,b0_1,b0_2,b0_3,b0_4,b0_5,(),b0_6,()),(b1,b1_1,b1_2,b1_3,b1_4,b1_5),b2,b3,b4,b5,b6))
def qe0 (l:Nat) (t73:(List S118)) (t74:Int) (t75:Int) (b0:ByteArray) (b0_1:(List S118)) (b0_2:ByteArray) (b0_3:(List S55)) (b0_4:(List Int)) (b0_5:Int) (b0_6:Nat) (b1:Int) (b1_1:(List S48)) (b1_2:ByteArray) (b1_3:Int) (b1_4:ByteArray) (b1_5:Int) (b2:(List ByteArray)) (b3:(List (ByteArray × ByteArray))) (b4:Nat) (b5:(List S45)) (b6:(List S62)):Option ((Unit × Unit × Nat × (List S118) × Int × Int × Bool) × ((ByteArray × (List S118) × ByteArray × (List S55) × (List Int) × Int × Unit × Nat × Unit) × (Int × (List S48) × ByteArray × Int × ByteArray × Int) × (List ByteArray) × (List (ByteArray × ByteArray)) × Nat × (List S45) × (List S62))) :=
 (brE (decide (t75<t74))
 (gdE (decide (0≤t75)) <|
 (gdE ((decide ((Int.toNat t75)<(List.length (EC.encL q26k t73))))&&(isE [K1.str,(K1.int Go.IntKind.i64)] 0 (List.getD (EC.encL q26k t73) (Int.toNat t75) []))) <|
 (gdE ((((List.all [[(C.str (q27s (List.getD (List.getD (EC.encL q26k t73) (Int.toNat t75) []) 0 C.ne)))]] (fun (el:(List C))=>((List.length el)==1)))&&(List.all (EC.encL q26v b2) (fun (el:(List C))=>((List.length el)==1))))&&(decide (((((l+(List.length [[(C.str (q27s (List.getD (List.getD (EC.encL q26k t73) (Int.toNat t75) []) 0 C.ne)))]]))+((l+(List.length [[(C.str (q27s (List.getD (List.getD (EC.encL q26k t73) (Int.toNat t75) []) 0 C.ne)))]])) / 4))+192)*16)≤281474976710656)))&&(decide ((l+(List.length [[(C.str (q27s (List.getD (List.getD (EC.encL q26k t73) (Int.toNat t75) []) 0 C.ne)))]]))≤9223372036854775807))) <|
 (gdE (EC.isL q26k (EC.encL q26k t73)) <|
 (gdE (EC.isL q26k (EC.encL q26k b0_1)) <|
 (gdE (EC.isL q26s (EC.encL q26s b0_3)) <|
 (gdE (EC.isL q26q (EC.encL q26q b0_4)) <|
 (gdE (EC.isL q26p (EC.encL q26p b1_1)) <|
 (gdE (EC.isL q26v ((EC.encL q26v b2)++[[(C.str (q27s (List.getD (List.getD (EC.encL q26k t73) (Int.toNat t75) []) 0 C.ne)))]])) <|
 (gdE (EC.isL q26o (EC.encL q26o b5)) <|
 (gdE (EC.isL q26t (EC.encL q26t b6)) <|
 (qdu (l+(List.length [[(C.str (q27s (List.getD (List.getD (EC.encL q26k t73) (Int.toNat t75) []) 0 C.ne)))]])) (EC.decL q26k (EC.encL q26k t73)) t74 (IntKind.wrap .i64 (t75+1)) b0 (EC.decL q26k (EC.encL q26k b0_1)) b0_2 (EC.decL q26s (EC.encL q26s b0_3)) (EC.decL q26q (EC.encL q26q b0_4)) b0_5 b0_6 b1 (EC.decL q26p (EC.encL q26p b1_1)) b1_2 b1_3 b1_4 b1_5 (EC.decL q26v ((EC.encL q26v b2)++[[(C.str (q27s (List.getD (List.getD (EC.encL q26k t73) (Int.toNat t75) []) 0 C.ne)))]])) b3 b4 (EC.decL q26o (EC.encL q26o b5)) (EC.decL q26t (EC.encL q26t b6))))))))))))))
 (gdE (EC.isL q26k (EC.encL q26k t73)) <|
 (gdE (EC.isL q26k (EC.encL q26k b0_1)) <|
 (gdE (EC.isL q26s (EC.encL q26s b0_3)) <|
 (gdE (EC.isL q26q (EC.encL q26q b0_4)) <|
 (gdE (EC.isL q26p (EC.encL q26p b1_1)) <|
 (gdE (EC.isL q26v (EC.encL q26v b2)) <|
 (gdE (EC.isL q26o (EC.encL q26o b5)) <|
 (gdE (EC.isL q26t (EC.encL q26t b6)) <|
 (some (((),((),(l,((EC.decL q26k (EC.encL q26k t73)),(t74,(t75,false)))))),((b0,((EC.decL q26k (EC.encL q26k b0_1)),(b0_2,((EC.decL q26s (EC.encL q26s b0_3)),((EC.decL q26q (EC.encL q26q b0_4)),(b0_5,((),(b0_6,())))))))),((b1,((EC.decL q26p (EC.encL q26p b1_1)),(b1_2,(b1_3,(b1_4,b1_5))))),((EC.decL q26v (EC.encL q26v b2)),(b3,(b4,((EC.decL q26o (EC.encL q26o b5)),(EC.decL q26t (EC.encL q26t b6)))))))))))))))))))
theorem qdw {l} {t73} {t74} {t75} {b0} {b0_1} {b0_2} {b0_3} {b0_4} {b0_5} {b0_6} {b1} {b1_1} {b1_2} {b1_3} {b1_4} {b1_5} {b2} {b3} {b4} {b5} {b6} {r} (h:qe0 l t73 t74 t75 b0 b0_1 b0_2 b0_3 b0_4 b0_5 b0_6 b1 b1_1 b1_2 b1_3 b1_4 b1_5 b2 b3 b4 b5 b6=some r):qdu l t73 t74 t75 b0 b0_1 b0_2 b0_3 b0_4 b0_5 b0_6 b1 b1_1 b1_2 b1_3 b1_4 b1_5 b2 b3 b4 b5 b6=some r :=
 qm5 (es:=q19p) (hs:=qkh) [] (by kernel_rfl) trivial trivial (by kernel_rfl) h
def qdv:=q27d Tryz.prog lv X0 20 (q270 (cdF Tryz.f80) 20) qdz qdx (fun x=>qdu x.1.2.2.1 x.1.2.2.2.1 x.1.2.2.2.2.1 x.1.2.2.2.2.2 x.2.1.1 x.2.1.2.1 x.2.1.2.2.1 x.2.1.2.2.2.1 x.2.1.2.2.2.2.1 x.2.1.2.2.2.2.2.1 x.2.1.2.2.2.2.2.2.2.1 x.2.2.1.1 x.2.2.1.2.1 x.2.2.1.2.2.1 x.2.2.1.2.2.2.1 x.2.2.1.2.2.2.2.1 x.2.2.1.2.2.2.2.2 x.2.2.2.1 x.2.2.2.2.1 x.2.2.2.2.2.1 x.2.2.2.2.2.2.1 x.2.2.2.2.2.2.2) (fun _ _ h=>qm4 h)
def qec (t:Int) (t_1:(List S48)) (t_2:ByteArray) (t_3:Int) (t_4:ByteArray) (t_5:Int) (b0:ByteArray) (b0_1:(List S118)) (b0_2:ByteArray) (b0_3:(List S55)) (b0_4:(List Int)) (b0_5:Int) (b0_6:Nat) (b1:(List (ByteArray × ByteArray))) (b2:Nat) (b3:(List S45)) (b4:(List S62)):Option (Bool × (Bool × ((ByteArray × (List S118) × ByteArray × (List S55) × (List Int) × Int × Unit × Nat × Unit) × (List (ByteArray × ByteArray)) × Nat × (List S45) × (List S62)))) :=
 (brE (t==2)
 (gdE ((decide ((Int.toNat 0)<(List.length (EC.encL q26p t_1))))&&(isE [(K1.int Go.IntKind.i64),K1.sl,K1.str,(K1.int Go.IntKind.i64),K1.str,(K1.int Go.IntKind.i64)] 0 (List.getD (EC.encL q26p t_1) (Int.toNat 0) []))) <|
 (gdE (EC.isL q26p (slOf (List.getD (List.getD (EC.encL q26p t_1) (Int.toNat 0) []) 1 C.ne))) <|
 (gdE (EC.isL q26k (EC.encL q26k b0_1)) <|
 (gdE (EC.isL q26s (EC.encL q26s b0_3)) <|
 (gdE (EC.isL q26q (EC.encL q26q b0_4)) <|
 (gdE (EC.isL q26o (EC.encL q26o b3)) <|
 (gdE (EC.isL q26t (EC.encL q26t b4)) <|
 (Option.bind (qdr (q273 (List.getD (List.getD (EC.encL q26p t_1) (Int.toNat 0) []) 0 C.ne)) (EC.decL q26p (slOf (List.getD (List.getD (EC.encL q26p t_1) (Int.toNat 0) []) 1 C.ne))) (q27s (List.getD (List.getD (EC.encL q26p t_1) (Int.toNat 0) []) 2 C.ne)) (q273 (List.getD (List.getD (EC.encL q26p t_1) (Int.toNat 0) []) 3 C.ne)) (q27s (List.getD (List.getD (EC.encL q26p t_1) (Int.toNat 0) []) 4 C.ne)) (q273 (List.getD (List.getD (EC.encL q26p t_1) (Int.toNat 0) []) 5 C.ne)) b0 (EC.decL q26k (EC.encL q26k b0_1)) b0_2 (EC.decL q26s (EC.encL q26s b0_3)) (EC.decL q26q (EC.encL q26q b0_4)) b0_5 b0_6 b1 b2 (EC.decL q26o (EC.encL q26o b3)) (EC.decL q26t (EC.encL q26t b4))) fun r0 =>
 (gdE (EC.isL q26k (EC.encL q26k r0.2.2.1.2.1)) <|
 (gdE (EC.isL q26s (EC.encL q26s r0.2.2.1.2.2.2.1)) <|
 (gdE (EC.isL q26q (EC.encL q26q r0.2.2.1.2.2.2.2.1)) <|
 (gdE (EC.isL q26o (EC.encL q26o r0.2.2.2.2.2.1)) <|
 (gdE (EC.isL q26t (EC.encL q26t r0.2.2.2.2.2.2)) <|
 (some ((!r0.1),((!r0.1),((r0.2.2.1.1,((EC.decL q26k (EC.encL q26k r0.2.2.1.2.1)),(r0.2.2.1.2.2.1,((EC.decL q26s (EC.encL q26s r0.2.2.1.2.2.2.1)),((EC.decL q26q (EC.encL q26q r0.2.2.1.2.2.2.2.1)),(r0.2.2.1.2.2.2.2.2.1,((),(r0.2.2.1.2.2.2.2.2.2.2.1,())))))))),(r0.2.2.2.1,(r0.2.2.2.2.1,((EC.decL q26o (EC.encL q26o r0.2.2.2.2.2.1)),(EC.decL q26t (EC.encL q26t r0.2.2.2.2.2.2))))))))))))))))))))))
 (brE (t==3)
 (gdE (EC.isL q26p (EC.encL q26p t_1)) <|
 (gdE (EC.isL q26k (EC.encL q26k b0_1)) <|
 (gdE (EC.isL q26s (EC.encL q26s b0_3)) <|
 (gdE (EC.isL q26q (EC.encL q26q b0_4)) <|
 (gdE (EC.isL q26p (EC.encL q26p t_1)) <|
 (gdE (EC.isL q26o (EC.encL q26o b3)) <|
 (gdE (EC.isL q26t (EC.encL q26t b4)) <|
 (Option.bind (qe1 (EC.decL q26p (EC.encL q26p t_1)) (List.length (EC.encL q26p t_1):Int) 0 b0 (EC.decL q26k (EC.encL q26k b0_1)) b0_2 (EC.decL q26s (EC.encL q26s b0_3)) (EC.decL q26q (EC.encL q26q b0_4)) b0_5 b0_6 t (EC.decL q26p (EC.encL q26p t_1)) t_2 t_3 t_4 t_5 b1 b2 (EC.decL q26o (EC.encL q26o b3)) (EC.decL q26t (EC.encL q26t b4))) fun r0 =>
 (Sum.elim (fun r1=>(gdE (EC.isL q26k (EC.encL q26k r1.2.1.2.1)) <|
 (gdE (EC.isL q26s (EC.encL q26s r1.2.1.2.2.2.1)) <|
 (gdE (EC.isL q26q (EC.encL q26q r1.2.1.2.2.2.2.1)) <|
 (gdE (EC.isL q26o (EC.encL q26o r1.2.2.2.2.1)) <|
 (gdE (EC.isL q26t (EC.encL q26t r1.2.2.2.2.2)) <|
 (some (r1.1,(r1.1,((r1.2.1.1,((EC.decL q26k (EC.encL q26k r1.2.1.2.1)),(r1.2.1.2.2.1,((EC.decL q26s (EC.encL q26s r1.2.1.2.2.2.1)),((EC.decL q26q (EC.encL q26q r1.2.1.2.2.2.2.1)),(r1.2.1.2.2.2.2.2.1,((),(r1.2.1.2.2.2.2.2.2.2.1,())))))))),(r1.2.2.1,(r1.2.2.2.1,((EC.decL q26o (EC.encL q26o r1.2.2.2.2.1)),(EC.decL q26t (EC.encL q26t r1.2.2.2.2.2)))))))))))))))
 (fun r1=>(gdE (EC.isL q26k (EC.encL q26k r1.2.1.2.1)) <|
 (gdE (EC.isL q26s (EC.encL q26s r1.2.1.2.2.2.1)) <|
 (gdE (EC.isL q26q (EC.encL q26q r1.2.1.2.2.2.2.1)) <|
 (gdE (EC.isL q26o (EC.encL q26o r1.2.2.2.2.2.1)) <|
 (gdE (EC.isL q26t (EC.encL q26t r1.2.2.2.2.2.2)) <|
 (some ((r1.2.2.1.1==3),((r1.2.2.1.1==3),((r1.2.1.1,((EC.decL q26k (EC.encL q26k r1.2.1.2.1)),(r1.2.1.2.2.1,((EC.decL q26s (EC.encL q26s r1.2.1.2.2.2.1)),((EC.decL q26q (EC.encL q26q r1.2.1.2.2.2.2.1)),(r1.2.1.2.2.2.2.2.1,((),(r1.2.1.2.2.2.2.2.2.2.1,())))))))),(r1.2.2.2.1,(r1.2.2.2.2.1,((EC.decL q26o (EC.encL q26o r1.2.2.2.2.2.1)),(EC.decL q26t (EC.encL q26t r1.2.2.2.2.2.2))))))))))))))) r0)))))))))
 (brE (t==4)
 (gdE (EC.isL q26p (EC.encL q26p t_1)) <|
 (gdE (EC.isL q26k (EC.encL q26k b0_1)) <|
 (gdE (EC.isL q26s (EC.encL q26s b0_3)) <|
 (gdE (EC.isL q26q (EC.encL q26q b0_4)) <|
 (gdE (EC.isL q26p (EC.encL q26p t_1)) <|
 (gdE (EC.isL q26o (EC.encL q26o b3)) <|
 (gdE (EC.isL q26t (EC.encL q26t b4)) <|
 (Option.bind (qe1 (EC.decL q26p (EC.encL q26p t_1)) (List.length (EC.encL q26p t_1):Int) 0 b0 (EC.decL q26k (EC.encL q26k b0_1)) b0_2 (EC.decL q26s (EC.encL q26s b0_3)) (EC.decL q26q (EC.encL q26q b0_4)) b0_5 b0_6 t (EC.decL q26p (EC.encL q26p t_1)) t_2 t_3 t_4 t_5 b1 b2 (EC.decL q26o (EC.encL q26o b3)) (EC.decL q26t (EC.encL q26t b4))) fun r0 =>
 (Sum.elim (fun r1=>(gdE (EC.isL q26k (EC.encL q26k r1.2.1.2.1)) <|
 (gdE (EC.isL q26s (EC.encL q26s r1.2.1.2.2.2.1)) <|
 (gdE (EC.isL q26q (EC.encL q26q r1.2.1.2.2.2.2.1)) <|
 (gdE (EC.isL q26o (EC.encL q26o r1.2.2.2.2.1)) <|
 (gdE (EC.isL q26t (EC.encL q26t r1.2.2.2.2.2)) <|
 (some (r1.1,(r1.1,((r1.2.1.1,((EC.decL q26k (EC.encL q26k r1.2.1.2.1)),(r1.2.1.2.2.1,((EC.decL q26s (EC.encL q26s r1.2.1.2.2.2.1)),((EC.decL q26q (EC.encL q26q r1.2.1.2.2.2.2.1)),(r1.2.1.2.2.2.2.2.1,((),(r1.2.1.2.2.2.2.2.2.2.1,())))))))),(r1.2.2.1,(r1.2.2.2.1,((EC.decL q26o (EC.encL q26o r1.2.2.2.2.1)),(EC.decL q26t (EC.encL q26t r1.2.2.2.2.2)))))))))))))))
 (fun r1=>(gdE (EC.isL q26k (EC.encL q26k r1.2.1.2.1)) <|
 (gdE (EC.isL q26s (EC.encL q26s r1.2.1.2.2.2.1)) <|
 (gdE (EC.isL q26q (EC.encL q26q r1.2.1.2.2.2.2.1)) <|
 (gdE (EC.isL q26o (EC.encL q26o r1.2.2.2.2.2.1)) <|
 (gdE (EC.isL q26t (EC.encL q26t r1.2.2.2.2.2.2)) <|
 (some ((r1.2.2.1.1==3),((r1.2.2.1.1==3),((r1.2.1.1,((EC.decL q26k (EC.encL q26k r1.2.1.2.1)),(r1.2.1.2.2.1,((EC.decL q26s (EC.encL q26s r1.2.1.2.2.2.1)),((EC.decL q26q (EC.encL q26q r1.2.1.2.2.2.2.1)),(r1.2.1.2.2.2.2.2.1,((),(r1.2.1.2.2.2.2.2.2.2.1,())))))))),(r1.2.2.2.1,(r1.2.2.2.2.1,((EC.decL q26o (EC.encL q26o r1.2.2.2.2.2.1)),(EC.decL q26t (EC.encL q26t r1.2.2.2.2.2.2))))))))))))))) r0)))))))))
 (brE (t==5)
 (gdE (EC.isL q26k (EC.encL q26k b0_1)) <|
 (gdE (EC.isL q26s (EC.encL q26s b0_3)) <|
 (gdE (EC.isL q26q (EC.encL q26q b0_4)) <|
 (gdE (EC.isL q26o (EC.encL q26o b3)) <|
 (gdE (EC.isL q26t (EC.encL q26t b4)) <|
 (Option.bind (qcy t_2 b0 (EC.decL q26k (EC.encL q26k b0_1)) b0_2 (EC.decL q26s (EC.encL q26s b0_3)) (EC.decL q26q (EC.encL q26q b0_4)) b0_5 b0_6 b1 b2 (EC.decL q26o (EC.encL q26o b3)) (EC.decL q26t (EC.encL q26t b4))) fun r0 =>
 (gdE (EC.isL q26p (EC.encL q26p t_1)) <|
 (gdE (EC.isL q26k (EC.encL q26k r0.2.2.2.1.2.1)) <|
 (gdE (EC.isL q26s (EC.encL q26s r0.2.2.2.1.2.2.2.1)) <|
 (gdE (EC.isL q26q (EC.encL q26q r0.2.2.2.1.2.2.2.2.1)) <|
 (gdE (EC.isL q26v (EC.encL q26v r0.2.2.1)) <|
 (gdE (EC.isL q26o (EC.encL q26o r0.2.2.2.2.2.2.1)) <|
 (gdE (EC.isL q26t (EC.encL q26t r0.2.2.2.2.2.2.2)) <|
 (Option.bind (qd5 t (EC.decL q26p (EC.encL q26p t_1)) t_2 t_3 t_4 t_5 r0.1 r0.2.2.2.1.1 (EC.decL q26k (EC.encL q26k r0.2.2.2.1.2.1)) r0.2.2.2.1.2.2.1 (EC.decL q26s (EC.encL q26s r0.2.2.2.1.2.2.2.1)) (EC.decL q26q (EC.encL q26q r0.2.2.2.1.2.2.2.2.1)) r0.2.2.2.1.2.2.2.2.2.1 r0.2.2.2.1.2.2.2.2.2.2.2.1 (EC.decL q26v (EC.encL q26v r0.2.2.1)) r0.2.2.2.2.1 r0.2.2.2.2.2.1 (EC.decL q26o (EC.encL q26o r0.2.2.2.2.2.2.1)) (EC.decL q26t (EC.encL q26t r0.2.2.2.2.2.2.2))) fun r1 =>
 (gdE (EC.isL q26k (EC.encL q26k r1.2.2.1.2.1)) <|
 (gdE (EC.isL q26s (EC.encL q26s r1.2.2.1.2.2.2.1)) <|
 (gdE (EC.isL q26q (EC.encL q26q r1.2.2.1.2.2.2.2.1)) <|
 (gdE (EC.isL q26o (EC.encL q26o r1.2.2.2.2.2.1)) <|
 (gdE (EC.isL q26t (EC.encL q26t r1.2.2.2.2.2.2)) <|
 (some (r1.1,(r1.1,((r1.2.2.1.1,((EC.decL q26k (EC.encL q26k r1.2.2.1.2.1)),(r1.2.2.1.2.2.1,((EC.decL q26s (EC.encL q26s r1.2.2.1.2.2.2.1)),((EC.decL q26q (EC.encL q26q r1.2.2.1.2.2.2.2.1)),(r1.2.2.1.2.2.2.2.2.1,((),(r1.2.2.1.2.2.2.2.2.2.2.1,())))))))),(r1.2.2.2.1,(r1.2.2.2.2.1,((EC.decL q26o (EC.encL q26o r1.2.2.2.2.2.1)),(EC.decL q26t (EC.encL q26t r1.2.2.2.2.2.2))))))))))))))))))))))))))))
 (brE (t==6)
 (gdE (EC.isL q26p (EC.encL q26p t_1)) <|
 (gdE (EC.isL q26k (EC.encL q26k b0_1)) <|
 (gdE (EC.isL q26s (EC.encL q26s b0_3)) <|
 (gdE (EC.isL q26q (EC.encL q26q b0_4)) <|
 (gdE (EC.isL q26o (EC.encL q26o b3)) <|
 (gdE (EC.isL q26t (EC.encL q26t b4)) <|
 (Option.bind (qd5 t (EC.decL q26p (EC.encL q26p t_1)) t_2 t_3 t_4 t_5 1 b0 (EC.decL q26k (EC.encL q26k b0_1)) b0_2 (EC.decL q26s (EC.encL q26s b0_3)) (EC.decL q26q (EC.encL q26q b0_4)) b0_5 b0_6 (EC.decL q26v [[(C.str b0)]]) b1 b2 (EC.decL q26o (EC.encL q26o b3)) (EC.decL q26t (EC.encL q26t b4))) fun r0 =>
 (gdE (EC.isL q26k (EC.encL q26k r0.2.2.1.2.1)) <|
 (gdE (EC.isL q26s (EC.encL q26s r0.2.2.1.2.2.2.1)) <|
 (gdE (EC.isL q26q (EC.encL q26q r0.2.2.1.2.2.2.2.1)) <|
 (gdE (EC.isL q26o (EC.encL q26o r0.2.2.2.2.2.1)) <|
 (gdE (EC.isL q26t (EC.encL q26t r0.2.2.2.2.2.2)) <|
 (some (r0.1,(r0.1,((r0.2.2.1.1,((EC.decL q26k (EC.encL q26k r0.2.2.1.2.1)),(r0.2.2.1.2.2.1,((EC.decL q26s (EC.encL q26s r0.2.2.1.2.2.2.1)),((EC.decL q26q (EC.encL q26q r0.2.2.1.2.2.2.2.1)),(r0.2.2.1.2.2.2.2.2.1,((),(r0.2.2.1.2.2.2.2.2.2.2.1,())))))))),(r0.2.2.2.1,(r0.2.2.2.2.1,((EC.decL q26o (EC.encL q26o r0.2.2.2.2.2.1)),(EC.decL q26t (EC.encL q26t r0.2.2.2.2.2.2)))))))))))))))))))))
 (brE (t==7)
 (gdE (EC.isL q26k (EC.encL q26k b0_1)) <|
 (gdE (EC.isL q26k (EC.encL q26k b0_1)) <|
 (gdE (EC.isL q26s (EC.encL q26s b0_3)) <|
 (gdE (EC.isL q26q (EC.encL q26q b0_4)) <|
 (gdE (EC.isL q26p (EC.encL q26p t_1)) <|
 (gdE (EC.isL q26o (EC.encL q26o b3)) <|
 (gdE (EC.isL q26t (EC.encL q26t b4)) <|
 (Option.bind (qdu 0 (EC.decL q26k (EC.encL q26k b0_1)) (List.length (EC.encL q26k b0_1):Int) 0 b0 (EC.decL q26k (EC.encL q26k b0_1)) b0_2 (EC.decL q26s (EC.encL q26s b0_3)) (EC.decL q26q (EC.encL q26q b0_4)) b0_5 b0_6 t (EC.decL q26p (EC.encL q26p t_1)) t_2 t_3 t_4 t_5 (EC.decL q26v []) b1 b2 (EC.decL q26o (EC.encL q26o b3)) (EC.decL q26t (EC.encL q26t b4))) fun r0 =>
 (gdE (EC.isL q26p (EC.encL q26p r0.2.2.1.2.1)) <|
 (gdE (EC.isL q26k (EC.encL q26k r0.2.1.2.1)) <|
 (gdE (EC.isL q26s (EC.encL q26s r0.2.1.2.2.2.1)) <|
 (gdE (EC.isL q26q (EC.encL q26q r0.2.1.2.2.2.2.1)) <|
 (gdE (EC.isL q26v (EC.encL q26v r0.2.2.2.1)) <|
 (gdE (EC.isL q26o (EC.encL q26o r0.2.2.2.2.2.2.1)) <|
 (gdE (EC.isL q26t (EC.encL q26t r0.2.2.2.2.2.2.2)) <|
 (Option.bind (qd5 r0.2.2.1.1 (EC.decL q26p (EC.encL q26p r0.2.2.1.2.1)) r0.2.2.1.2.2.1 r0.2.2.1.2.2.2.1 r0.2.2.1.2.2.2.2.1 r0.2.2.1.2.2.2.2.2 r0.1.2.2.1 r0.2.1.1 (EC.decL q26k (EC.encL q26k r0.2.1.2.1)) r0.2.1.2.2.1 (EC.decL q26s (EC.encL q26s r0.2.1.2.2.2.1)) (EC.decL q26q (EC.encL q26q r0.2.1.2.2.2.2.1)) r0.2.1.2.2.2.2.2.1 r0.2.1.2.2.2.2.2.2.2.1 (EC.decL q26v (EC.encL q26v r0.2.2.2.1)) r0.2.2.2.2.1 r0.2.2.2.2.2.1 (EC.decL q26o (EC.encL q26o r0.2.2.2.2.2.2.1)) (EC.decL q26t (EC.encL q26t r0.2.2.2.2.2.2.2))) fun r1 =>
 (gdE (EC.isL q26k (EC.encL q26k r1.2.2.1.2.1)) <|
 (gdE (EC.isL q26s (EC.encL q26s r1.2.2.1.2.2.2.1)) <|
 (gdE (EC.isL q26q (EC.encL q26q r1.2.2.1.2.2.2.2.1)) <|
 (gdE (EC.isL q26o (EC.encL q26o r1.2.2.2.2.2.1)) <|
 (gdE (EC.isL q26t (EC.encL q26t r1.2.2.2.2.2.2)) <|
 (some (r1.1,(r1.1,((r1.2.2.1.1,((EC.decL q26k (EC.encL q26k r1.2.2.1.2.1)),(r1.2.2.1.2.2.1,((EC.decL q26s (EC.encL q26s r1.2.2.1.2.2.2.1)),((EC.decL q26q (EC.encL q26q r1.2.2.1.2.2.2.2.1)),(r1.2.2.1.2.2.2.2.2.1,((),(r1.2.2.1.2.2.2.2.2.2.2.1,())))))))),(r1.2.2.2.1,(r1.2.2.2.2.1,((EC.decL q26o (EC.encL q26o r1.2.2.2.2.2.1)),(EC.decL q26t (EC.encL q26t r1.2.2.2.2.2.2))))))))))))))))))))))))))))))
 (brE (t==8)
 (gdE (EC.isL q26k (EC.encL q26k b0_1)) <|
 (gdE (EC.isL q26s (EC.encL q26s b0_3)) <|
 (gdE (EC.isL q26q (EC.encL q26q b0_4)) <|
 (gdE (EC.isL q26o (EC.encL q26o b3)) <|
 (gdE (EC.isL q26t (EC.encL q26t b4)) <|
 (some ((decide (b0_5 > t_5)),((decide (b0_5 > t_5)),((b0,((EC.decL q26k (EC.encL q26k b0_1)),(b0_2,((EC.decL q26s (EC.encL q26s b0_3)),((EC.decL q26q (EC.encL q26q b0_4)),(b0_5,((),(b0_6,())))))))),(b1,(b2,((EC.decL q26o (EC.encL q26o b3)),(EC.decL q26t (EC.encL q26t b4))))))))))))))
 (brE (t==9)
 (gdE (EC.isL q26k (EC.encL q26k b0_1)) <|
 (gdE (EC.isL q26s (EC.encL q26s b0_3)) <|
 (gdE (EC.isL q26q (EC.encL q26q b0_4)) <|
 (gdE (EC.isL q26o (EC.encL q26o b3)) <|
 (gdE (EC.isL q26t (EC.encL q26t b4)) <|
 (Option.bind (qcy t_2 b0 (EC.decL q26k (EC.encL q26k b0_1)) b0_2 (EC.decL q26s (EC.encL q26s b0_3)) (EC.decL q26q (EC.encL q26q b0_4)) b0_5 b0_6 b1 b2 (EC.decL q26o (EC.encL q26o b3)) (EC.decL q26t (EC.encL q26t b4))) fun r0 =>
 (gdE (EC.isL q26k (EC.encL q26k r0.2.2.2.1.2.1)) <|
 (gdE (EC.isL q26s (EC.encL q26s r0.2.2.2.1.2.2.2.1)) <|
 (gdE (EC.isL q26q (EC.encL q26q r0.2.2.2.1.2.2.2.2.1)) <|
 (gdE (EC.isL q26o (EC.encL q26o r0.2.2.2.2.2.2.1)) <|
 (gdE (EC.isL q26t (EC.encL q26t r0.2.2.2.2.2.2.2)) <|
 (some ((decide (((r0.1:Nat):Int) > 0)),((decide (((r0.1:Nat):Int) > 0)),((r0.2.2.2.1.1,((EC.decL q26k (EC.encL q26k r0.2.2.2.1.2.1)),(r0.2.2.2.1.2.2.1,((EC.decL q26s (EC.encL q26s r0.2.2.2.1.2.2.2.1)),((EC.decL q26q (EC.encL q26q r0.2.2.2.1.2.2.2.2.1)),(r0.2.2.2.1.2.2.2.2.2.1,((),(r0.2.2.2.1.2.2.2.2.2.2.2.1,())))))))),(r0.2.2.2.2.1,(r0.2.2.2.2.2.1,((EC.decL q26o (EC.encL q26o r0.2.2.2.2.2.2.1)),(EC.decL q26t (EC.encL q26t r0.2.2.2.2.2.2.2))))))))))))))))))))
 (gdE (EC.isL q26k (EC.encL q26k b0_1)) <|
 (gdE (EC.isL q26s (EC.encL q26s b0_3)) <|
 (gdE (EC.isL q26q (EC.encL q26q b0_4)) <|
 (gdE (EC.isL q26o (EC.encL q26o b3)) <|
 (gdE (EC.isL q26t (EC.encL q26t b4)) <|
 (some (true,(true,((b0,((EC.decL q26k (EC.encL q26k b0_1)),(b0_2,((EC.decL q26s (EC.encL q26s b0_3)),((EC.decL q26q (EC.encL q26q b0_4)),(b0_5,((),(b0_6,())))))))),(b1,(b2,((EC.decL q26o (EC.encL q26o b3)),(EC.decL q26t (EC.encL q26t b4))))))))))))))))))))))
theorem qdt {t} {t_1} {t_2} {t_3} {t_4} {t_5} {b0} {b0_1} {b0_2} {b0_3} {b0_4} {b0_5} {b0_6} {b1} {b2} {b3} {b4} {r} (h:qec t t_1 t_2 t_3 t_4 t_5 b0 b0_1 b0_2 b0_3 b0_4 b0_5 b0_6 b1 b2 b3 b4=some r):qdr t t_1 t_2 t_3 t_4 t_5 b0 b0_1 b0_2 b0_3 b0_4 b0_5 b0_6 b1 b2 b3 b4=some r :=
 qis (fn:=Tryz.f80) (es:=q19p) (hs:=qkh) [qe2,qdv] (by kernel_rfl) rfl (by kernel_rfl) ⟨⟨_,rfl,rfl⟩,⟨_,rfl,rfl⟩,trivial⟩ trivial (by kernel_rfl) h
def qes:=sLS [0,1] (q279 (vAgg (q279 (vC (cInt .i64)) (q279 (vC cBool) (q27b (vC cStr))))) (q27b (vPtr 0 0))) (q279 (q27g (bBox (q27b (vRow 1)))) (q27b (q27g (bRow q26t)))) [false,false] [0] (by decide) (fun _=>rfl)
def qer:SC (Unit × (Nat × (List S62))):=sLS [] q27a (q279 (q27g (bBox (q27b (vRow 1)))) (q27b (q27g (bRow q26t)))) [false,false] [0] (by decide) (fun _=>rfl)
def qeq:HC (Unit × (Unit × (Nat × (List S62)))):=hPair (vTup q27a) qer
def qen (t:Int) (t_1:Bool) (t_2:ByteArray) (b0:Nat) (b1:(List S62)):Option (Unit × (Unit × (Nat × (List S62)))):=hS Tryz.prog lv X0 48 qes qeq (((t,t_1,t_2),()),(b0,b1))
def qet (t:Int) (t_1:Bool) (t_2:ByteArray) (b0:Nat) (b1:(List S62)):Option (Unit × (Unit × (Nat × (List S62)))) :=
 (gdE ((((List.all [[(C.int Go.IntKind.i64 t),(C.bool t_1),(C.str t_2)]] (fun (el:(List C))=>((List.length el)==3)))&&(List.all (EC.encL q26t b1) (fun (el:(List C))=>((List.length el)==3))))&&(decide (((((b0+(List.length [[(C.int Go.IntKind.i64 t),(C.bool t_1),(C.str t_2)]]))+((b0+(List.length [[(C.int Go.IntKind.i64 t),(C.bool t_1),(C.str t_2)]])) / 4))+192)*32)≤281474976710656)))&&(decide ((b0+(List.length [[(C.int Go.IntKind.i64 t),(C.bool t_1),(C.str t_2)]]))≤9223372036854775807))) <|
 (gdE (EC.isL q26t ((EC.encL q26t b1)++[[(C.int Go.IntKind.i64 t),(C.bool t_1),(C.str t_2)]])) <|
 (some ((),((),((b0+(List.length [[(C.int Go.IntKind.i64 t),(C.bool t_1),(C.str t_2)]])),(EC.decL q26t ((EC.encL q26t b1)++[[(C.int Go.IntKind.i64 t),(C.bool t_1),(C.str t_2)]]))))))))
theorem qep {t} {t_1} {t_2} {b0} {b1} {r} (h:qet t t_1 t_2 b0 b1=some r):qen t t_1 t_2 b0 b1=some r :=
 qis (fn:=Tryz.f48) (es:=q19p) (hs:=qkh) [] (by kernel_rfl) rfl (by kernel_rfl) trivial trivial (by kernel_rfl) h
def qeo:=hentS Tryz.prog lv X0 48 [0,7,3,1,1,1,2,1,3,1,3,0,0,1,1,2,1,2,0] qes qeq (fun x=>qen x.1.1.1 x.1.1.2.1 x.1.1.2.2 x.2.1 x.2.2) (fun _ _ h=>qir h)
def qkj:=qeo::qkh
def qcs:=sLS [0,2,12,13,14] (q279 (vPtr 0 0) (q279 (vC (cInt .i64)) (q279 (vC (cSl q26r)) (q279 (vC (cInt .i64)) (q27b (vC (cInt .i64))))))) (q279 (q27g (bBox (q279 (vC cStr) (q279 (vC (cSl q26k)) (q279 (vC cStr) (q279 (vC (cSl q26s)) (q279 (vC (cSl q26q)) (q279 (vC (cInt .i64)) (q279 (vMp 1) (q279 (vRow 3) (q27b (vFn 48 (q27b (vPtr 2 0)))))))))))))) (q279 (q27g bMap) (q279 (q27g (bBox (q27b (vRow 4)))) (q279 (q27g (bRow q26o)) (q27b (q27g (bRow q26t))))))) [false,false,false,false,false] [0,1,2] (by decide) (fun _=>rfl)
def qcr:=sLS [0,2,12,13,14,15] (q279 (vPtr 0 0) (q279 (vC (cInt .i64)) (q279 (vC (cSl q26r)) (q279 (vC (cInt .i64)) (q279 (vC (cInt .i64)) (q27b (vC cBool))))))) (q279 (q27g (bBox (q279 (vC cStr) (q279 (vC (cSl q26k)) (q279 (vC cStr) (q279 (vC (cSl q26s)) (q279 (vC (cSl q26q)) (q279 (vC (cInt .i64)) (q279 (vMp 1) (q279 (vRow 3) (q27b (vFn 48 (q27b (vPtr 2 0)))))))))))))) (q279 (q27g bMap) (q279 (q27g (bBox (q27b (vRow 4)))) (q279 (q27g (bRow q26o)) (q27b (q27g (bRow q26t))))))) [false,false,false,false,false] [0,1,2] (by decide) (fun _=>rfl)
def qcq:=sLS [6] (q27b (vC cBool)) (q279 (q27g (bBox (q279 (vC cStr) (q279 (vC (cSl q26k)) (q279 (vC cStr) (q279 (vC (cSl q26s)) (q279 (vC (cSl q26q)) (q279 (vC (cInt .i64)) (q279 (vMp 1) (q279 (vRow 3) (q27b (vFn 48 (q27b (vPtr 2 0)))))))))))))) (q279 (q27g bMap) (q279 (q27g (bBox (q27b (vRow 4)))) (q279 (q27g (bRow q26o)) (q27b (q27g (bRow q26t))))))) [false,false,false,false,false] [0,1,2] (by decide) (fun _=>rfl)
def qcp:=oOr 1 qcq (oAt 2 qcr) (fun x=>(by decide:(2:Nat)≠1))
def qcm (number:Int) (t12:(List S50)) (t13:Int) (t14:Int) (b0:ByteArray) (b0_1:(List S118)) (b0_2:ByteArray) (b0_3:(List S55)) (b0_4:(List Int)) (b0_5:Int) (b0_6:Nat) (b1:(List (ByteArray × ByteArray))) (b2:Nat) (b3:(List S45)) (b4:(List S62)):Option ((Bool × ((ByteArray × (List S118) × ByteArray × (List S55) × (List Int) × Int × Unit × Nat × Unit) × (List (ByteArray × ByteArray)) × Nat × (List S45) × (List S62))) ⊕ ((Unit × Int × (List S50) × Int × Int × Bool) × ((ByteArray × (List S118) × ByteArray × (List S55) × (List Int) × Int × Unit × Nat × Unit) × (List (ByteArray × ByteArray)) × Nat × (List S45) × (List S62)))):=lS Tryz.prog lv X0 61 122 (q270 (cdF Tryz.f61) 2) qcs qcp (((),number,t12,t13,t14),((b0,b0_1,b0_2,b0_3,b0_4,b0_5,(),b0_6,()),b1,b2,b3,b4))
def qct (number:Int) (t12:(List S50)) (t13:Int) (t14:Int) (b0:ByteArray) (b0_1:(List S118)) (b0_2:ByteArray) (b0_3:(List S55)) (b0_4:(List Int)) (b0_5:Int) (b0_6:Nat) (b1:(List (ByteArray × ByteArray))) (b2:Nat) (b3:(List S45)) (b4:(List S62)):Option ((Bool × ((ByteArray × (List S118) × ByteArray × (List S55) × (List Int) × Int × Unit × Nat × Unit) × (List (ByteArray × ByteArray)) × Nat × (List S45) × (List S62))) ⊕ ((Unit × Int × (List S50) × Int × Int × Bool) × ((ByteArray × (List S118) × ByteArray × (List S55) × (List Int) × Int × Unit × Nat × Unit) × (List (ByteArray × ByteArray)) × Nat × (List S45) × (List S62)))) :=
 (brE (decide (t14<t13))
 (gdE (decide (0≤t14)) <|
 (gdE ((decide ((Int.toNat t14)<(List.length (EC.encL q26r t12))))&&(isE [(K1.int Go.IntKind.i64),(K1.int Go.IntKind.i64),K1.sl,K1.str,(K1.int Go.IntKind.i64),K1.str,(K1.int Go.IntKind.i64),K1.sl,K1.sl,(K1.int Go.IntKind.i64),K1.str,K1.str,(K1.int Go.IntKind.i64)] 0 (List.getD (EC.encL q26r t12) (Int.toNat t14) []))) <|
 (brE ((q273 (List.getD (List.getD (EC.encL q26r t12) (Int.toNat t14) []) 0 C.ne))==1)
 (gdE (EC.isL q26p (slOf (List.getD (List.getD (EC.encL q26r t12) (Int.toNat t14) []) 2 C.ne))) <|
 (gdE (EC.isL q26k (EC.encL q26k b0_1)) <|
 (gdE (EC.isL q26s (EC.encL q26s b0_3)) <|
 (gdE (EC.isL q26q (EC.encL q26q b0_4)) <|
 (gdE (EC.isL q26o (EC.encL q26o b3)) <|
 (gdE (EC.isL q26t (EC.encL q26t b4)) <|
 (Option.bind (qdr (q273 (List.getD (List.getD (EC.encL q26r t12) (Int.toNat t14) []) 1 C.ne)) (EC.decL q26p (slOf (List.getD (List.getD (EC.encL q26r t12) (Int.toNat t14) []) 2 C.ne))) (q27s (List.getD (List.getD (EC.encL q26r t12) (Int.toNat t14) []) 3 C.ne)) (q273 (List.getD (List.getD (EC.encL q26r t12) (Int.toNat t14) []) 4 C.ne)) (q27s (List.getD (List.getD (EC.encL q26r t12) (Int.toNat t14) []) 5 C.ne)) (q273 (List.getD (List.getD (EC.encL q26r t12) (Int.toNat t14) []) 6 C.ne)) b0 (EC.decL q26k (EC.encL q26k b0_1)) b0_2 (EC.decL q26s (EC.encL q26s b0_3)) (EC.decL q26q (EC.encL q26q b0_4)) b0_5 b0_6 b1 b2 (EC.decL q26o (EC.encL q26o b3)) (EC.decL q26t (EC.encL q26t b4))) fun r0 =>
 (gdE (EC.isL q26t (EC.encL q26t r0.2.2.2.2.2.2)) <|
 (Option.bind (qen number r0.1 ⟨#[]⟩ r0.2.2.2.2.1 (EC.decL q26t (EC.encL q26t r0.2.2.2.2.2.2))) fun r1 =>
 (brE (!r0.1)
 (gdE (EC.isL q26r (slOf (List.getD (List.getD (EC.encL q26r t12) (Int.toNat t14) []) 7 C.ne))) <|
 (Option.bind (qtp (EC.decL q26r (slOf (List.getD (List.getD (EC.encL q26r t12) (Int.toNat t14) []) 7 C.ne)))) fun r2 =>
 (gdE (EC.isL q26r (slOf (List.getD (List.getD (EC.encL q26r t12) (Int.toNat t14) []) 8 C.ne))) <|
 (gdE (EC.isL q26k (EC.encL q26k r0.2.2.1.2.1)) <|
 (gdE (EC.isL q26s (EC.encL q26s r0.2.2.1.2.2.2.1)) <|
 (gdE (EC.isL q26q (EC.encL q26q r0.2.2.1.2.2.2.2.1)) <|
 (gdE (EC.isL q26o (EC.encL q26o r0.2.2.2.2.2.1)) <|
 (gdE (EC.isL q26t (EC.encL q26t r1.2.2.2)) <|
 (Option.bind (qcj (EC.decL q26r (slOf (List.getD (List.getD (EC.encL q26r t12) (Int.toNat t14) []) 8 C.ne))) (IntKind.wrap .i64 ((IntKind.wrap .i64 (number+1))+r2)) r0.2.2.1.1 (EC.decL q26k (EC.encL q26k r0.2.2.1.2.1)) r0.2.2.1.2.2.1 (EC.decL q26s (EC.encL q26s r0.2.2.1.2.2.2.1)) (EC.decL q26q (EC.encL q26q r0.2.2.1.2.2.2.2.1)) r0.2.2.1.2.2.2.2.2.1 r0.2.2.1.2.2.2.2.2.2.2.1 r0.2.2.2.1 r1.2.2.1 (EC.decL q26o (EC.encL q26o r0.2.2.2.2.2.1)) (EC.decL q26t (EC.encL q26t r1.2.2.2))) fun r3 =>
 (brE (!r3.1)
 (gdE (EC.isL q26k (EC.encL q26k r3.2.2.1.2.1)) <|
 (gdE (EC.isL q26s (EC.encL q26s r3.2.2.1.2.2.2.1)) <|
 (gdE (EC.isL q26q (EC.encL q26q r3.2.2.1.2.2.2.2.1)) <|
 (gdE (EC.isL q26o (EC.encL q26o r3.2.2.2.2.2.1)) <|
 (gdE (EC.isL q26t (EC.encL q26t r3.2.2.2.2.2.2)) <|
 (some (.inl (false,((r3.2.2.1.1,((EC.decL q26k (EC.encL q26k r3.2.2.1.2.1)),(r3.2.2.1.2.2.1,((EC.decL q26s (EC.encL q26s r3.2.2.1.2.2.2.1)),((EC.decL q26q (EC.encL q26q r3.2.2.1.2.2.2.2.1)),(r3.2.2.1.2.2.2.2.2.1,((),(r3.2.2.1.2.2.2.2.2.2.2.1,())))))))),(r3.2.2.2.1,(r3.2.2.2.2.1,((EC.decL q26o (EC.encL q26o r3.2.2.2.2.2.1)),(EC.decL q26t (EC.encL q26t r3.2.2.2.2.2.2))))))))))))))
 (gdE (EC.isL q26r (slOf (List.getD (List.getD (EC.encL q26r t12) (Int.toNat t14) []) 7 C.ne))) <|
 (Option.bind (qtp (EC.decL q26r (slOf (List.getD (List.getD (EC.encL q26r t12) (Int.toNat t14) []) 7 C.ne)))) fun r4 =>
 (gdE (EC.isL q26r (slOf (List.getD (List.getD (EC.encL q26r t12) (Int.toNat t14) []) 8 C.ne))) <|
 (Option.bind (qtp (EC.decL q26r (slOf (List.getD (List.getD (EC.encL q26r t12) (Int.toNat t14) []) 8 C.ne)))) fun r5 =>
 (gdE (EC.isL q26r (EC.encL q26r t12)) <|
 (gdE (EC.isL q26k (EC.encL q26k r3.2.2.1.2.1)) <|
 (gdE (EC.isL q26s (EC.encL q26s r3.2.2.1.2.2.2.1)) <|
 (gdE (EC.isL q26q (EC.encL q26q r3.2.2.1.2.2.2.2.1)) <|
 (gdE (EC.isL q26o (EC.encL q26o r3.2.2.2.2.2.1)) <|
 (gdE (EC.isL q26t (EC.encL q26t r3.2.2.2.2.2.2)) <|
 (qcm (IntKind.wrap .i64 (number+(IntKind.wrap .i64 ((IntKind.wrap .i64 (1+r4))+r5)))) (EC.decL q26r (EC.encL q26r t12)) t13 (IntKind.wrap .i64 (t14+1)) r3.2.2.1.1 (EC.decL q26k (EC.encL q26k r3.2.2.1.2.1)) r3.2.2.1.2.2.1 (EC.decL q26s (EC.encL q26s r3.2.2.1.2.2.2.1)) (EC.decL q26q (EC.encL q26q r3.2.2.1.2.2.2.2.1)) r3.2.2.1.2.2.2.2.2.1 r3.2.2.1.2.2.2.2.2.2.2.1 r3.2.2.2.1 r3.2.2.2.2.1 (EC.decL q26o (EC.encL q26o r3.2.2.2.2.2.1)) (EC.decL q26t (EC.encL q26t r3.2.2.2.2.2.2)))))))))))))))))))))))
 (gdE (EC.isL q26r (slOf (List.getD (List.getD (EC.encL q26r t12) (Int.toNat t14) []) 7 C.ne))) <|
 (gdE (EC.isL q26k (EC.encL q26k r0.2.2.1.2.1)) <|
 (gdE (EC.isL q26s (EC.encL q26s r0.2.2.1.2.2.2.1)) <|
 (gdE (EC.isL q26q (EC.encL q26q r0.2.2.1.2.2.2.2.1)) <|
 (gdE (EC.isL q26o (EC.encL q26o r0.2.2.2.2.2.1)) <|
 (gdE (EC.isL q26t (EC.encL q26t r1.2.2.2)) <|
 (Option.bind (qcj (EC.decL q26r (slOf (List.getD (List.getD (EC.encL q26r t12) (Int.toNat t14) []) 7 C.ne))) (IntKind.wrap .i64 (number+1)) r0.2.2.1.1 (EC.decL q26k (EC.encL q26k r0.2.2.1.2.1)) r0.2.2.1.2.2.1 (EC.decL q26s (EC.encL q26s r0.2.2.1.2.2.2.1)) (EC.decL q26q (EC.encL q26q r0.2.2.1.2.2.2.2.1)) r0.2.2.1.2.2.2.2.2.1 r0.2.2.1.2.2.2.2.2.2.2.1 r0.2.2.2.1 r1.2.2.1 (EC.decL q26o (EC.encL q26o r0.2.2.2.2.2.1)) (EC.decL q26t (EC.encL q26t r1.2.2.2))) fun r2 =>
 (brE (!r2.1)
 (gdE (EC.isL q26k (EC.encL q26k r2.2.2.1.2.1)) <|
 (gdE (EC.isL q26s (EC.encL q26s r2.2.2.1.2.2.2.1)) <|
 (gdE (EC.isL q26q (EC.encL q26q r2.2.2.1.2.2.2.2.1)) <|
 (gdE (EC.isL q26o (EC.encL q26o r2.2.2.2.2.2.1)) <|
 (gdE (EC.isL q26t (EC.encL q26t r2.2.2.2.2.2.2)) <|
 (some (.inl (false,((r2.2.2.1.1,((EC.decL q26k (EC.encL q26k r2.2.2.1.2.1)),(r2.2.2.1.2.2.1,((EC.decL q26s (EC.encL q26s r2.2.2.1.2.2.2.1)),((EC.decL q26q (EC.encL q26q r2.2.2.1.2.2.2.2.1)),(r2.2.2.1.2.2.2.2.2.1,((),(r2.2.2.1.2.2.2.2.2.2.2.1,())))))))),(r2.2.2.2.1,(r2.2.2.2.2.1,((EC.decL q26o (EC.encL q26o r2.2.2.2.2.2.1)),(EC.decL q26t (EC.encL q26t r2.2.2.2.2.2.2))))))))))))))
 (gdE (EC.isL q26r (slOf (List.getD (List.getD (EC.encL q26r t12) (Int.toNat t14) []) 7 C.ne))) <|
 (Option.bind (qtp (EC.decL q26r (slOf (List.getD (List.getD (EC.encL q26r t12) (Int.toNat t14) []) 7 C.ne)))) fun r3 =>
 (gdE (EC.isL q26r (slOf (List.getD (List.getD (EC.encL q26r t12) (Int.toNat t14) []) 8 C.ne))) <|
 (Option.bind (qtp (EC.decL q26r (slOf (List.getD (List.getD (EC.encL q26r t12) (Int.toNat t14) []) 8 C.ne)))) fun r4 =>
 (gdE (EC.isL q26r (EC.encL q26r t12)) <|
 (gdE (EC.isL q26k (EC.encL q26k r2.2.2.1.2.1)) <|
 (gdE (EC.isL q26s (EC.encL q26s r2.2.2.1.2.2.2.1)) <|
 (gdE (EC.isL q26q (EC.encL q26q r2.2.2.1.2.2.2.2.1)) <|
 (gdE (EC.isL q26o (EC.encL q26o r2.2.2.2.2.2.1)) <|
 (gdE (EC.isL q26t (EC.encL q26t r2.2.2.2.2.2.2)) <|
 (qcm (IntKind.wrap .i64 (number+(IntKind.wrap .i64 ((IntKind.wrap .i64 (1+r3))+r4)))) (EC.decL q26r (EC.encL q26r t12)) t13 (IntKind.wrap .i64 (t14+1)) r2.2.2.1.1 (EC.decL q26k (EC.encL q26k r2.2.2.1.2.1)) r2.2.2.1.2.2.1 (EC.decL q26s (EC.encL q26s r2.2.2.1.2.2.2.1)) (EC.decL q26q (EC.encL q26q r2.2.2.1.2.2.2.2.1)) r2.2.2.1.2.2.2.2.2.1 r2.2.2.1.2.2.2.2.2.2.2.1 r2.2.2.2.1 r2.2.2.2.2.1 (EC.decL q26o (EC.encL q26o r2.2.2.2.2.2.1)) (EC.decL q26t (EC.encL q26t r2.2.2.2.2.2.2)))))))))))))))))))))))))))))))
 (brE ((q273 (List.getD (List.getD (EC.encL q26r t12) (Int.toNat t14) []) 0 C.ne))==2)
 (Option.bind (expP b1 (q27s (List.getD (List.getD (EC.encL q26r t12) (Int.toNat t14) []) 11 C.ne))) fun r0 =>
 (gdE ((((List.all [[(C.int Go.IntKind.i64 (q273 (List.getD (List.getD (EC.encL q26r t12) (Int.toNat t14) []) 9 C.ne))),(C.str r0),(C.int Go.IntKind.i64 (q273 (List.getD (List.getD (EC.encL q26r t12) (Int.toNat t14) []) 12 C.ne)))]] (fun (el:(List C))=>((List.length el)==3)))&&(List.all (EC.encL q26o b3) (fun (el:(List C))=>((List.length el)==3))))&&(decide (((((b0_6+(List.length [[(C.int Go.IntKind.i64 (q273 (List.getD (List.getD (EC.encL q26r t12) (Int.toNat t14) []) 9 C.ne))),(C.str r0),(C.int Go.IntKind.i64 (q273 (List.getD (List.getD (EC.encL q26r t12) (Int.toNat t14) []) 12 C.ne)))]]))+((b0_6+(List.length [[(C.int Go.IntKind.i64 (q273 (List.getD (List.getD (EC.encL q26r t12) (Int.toNat t14) []) 9 C.ne))),(C.str r0),(C.int Go.IntKind.i64 (q273 (List.getD (List.getD (EC.encL q26r t12) (Int.toNat t14) []) 12 C.ne)))]])) / 4))+192)*32)≤281474976710656)))&&(decide ((b0_6+(List.length [[(C.int Go.IntKind.i64 (q273 (List.getD (List.getD (EC.encL q26r t12) (Int.toNat t14) []) 9 C.ne))),(C.str r0),(C.int Go.IntKind.i64 (q273 (List.getD (List.getD (EC.encL q26r t12) (Int.toNat t14) []) 12 C.ne)))]]))≤9223372036854775807))) <|
 (gdE (EC.isL q26t (EC.encL q26t b4)) <|
 (Option.bind (qen number false r0 b2 (EC.decL q26t (EC.encL q26t b4))) fun r1 =>
 (gdE (EC.isL q26r (slOf (List.getD (List.getD (EC.encL q26r t12) (Int.toNat t14) []) 7 C.ne))) <|
 (Option.bind (qtp (EC.decL q26r (slOf (List.getD (List.getD (EC.encL q26r t12) (Int.toNat t14) []) 7 C.ne)))) fun r2 =>
 (gdE (EC.isL q26r (slOf (List.getD (List.getD (EC.encL q26r t12) (Int.toNat t14) []) 8 C.ne))) <|
 (Option.bind (qtp (EC.decL q26r (slOf (List.getD (List.getD (EC.encL q26r t12) (Int.toNat t14) []) 8 C.ne)))) fun r3 =>
 (gdE (EC.isL q26r (EC.encL q26r t12)) <|
 (gdE (EC.isL q26k (EC.encL q26k b0_1)) <|
 (gdE (EC.isL q26s (EC.encL q26s b0_3)) <|
 (gdE (EC.isL q26q (EC.encL q26q b0_4)) <|
 (gdE (EC.isL q26o ((EC.encL q26o b3)++[[(C.int Go.IntKind.i64 (q273 (List.getD (List.getD (EC.encL q26r t12) (Int.toNat t14) []) 9 C.ne))),(C.str r0),(C.int Go.IntKind.i64 (q273 (List.getD (List.getD (EC.encL q26r t12) (Int.toNat t14) []) 12 C.ne)))]])) <|
 (gdE (EC.isL q26t (EC.encL q26t r1.2.2.2)) <|
 (qcm (IntKind.wrap .i64 (number+(IntKind.wrap .i64 ((IntKind.wrap .i64 (1+r2))+r3)))) (EC.decL q26r (EC.encL q26r t12)) t13 (IntKind.wrap .i64 (t14+1)) b0 (EC.decL q26k (EC.encL q26k b0_1)) b0_2 (EC.decL q26s (EC.encL q26s b0_3)) (EC.decL q26q (EC.encL q26q b0_4)) b0_5 (b0_6+(List.length [[(C.int Go.IntKind.i64 (q273 (List.getD (List.getD (EC.encL q26r t12) (Int.toNat t14) []) 9 C.ne))),(C.str r0),(C.int Go.IntKind.i64 (q273 (List.getD (List.getD (EC.encL q26r t12) (Int.toNat t14) []) 12 C.ne)))]])) b1 r1.2.2.1 (EC.decL q26o ((EC.encL q26o b3)++[[(C.int Go.IntKind.i64 (q273 (List.getD (List.getD (EC.encL q26r t12) (Int.toNat t14) []) 9 C.ne))),(C.str r0),(C.int Go.IntKind.i64 (q273 (List.getD (List.getD (EC.encL q26r t12) (Int.toNat t14) []) 12 C.ne)))]])) (EC.decL q26t (EC.encL q26t r1.2.2.2)))))))))))))))))
 (brE ((q273 (List.getD (List.getD (EC.encL q26r t12) (Int.toNat t14) []) 0 C.ne))==3)
 (Option.bind (expP b1 (q27s (List.getD (List.getD (EC.encL q26r t12) (Int.toNat t14) []) 11 C.ne))) fun r0 =>
 (gdE (((decide ((ByteArray.size (q27s (List.getD (List.getD (EC.encL q26r t12) (Int.toNat t14) []) 10 C.ne)))≤Go.maxLen))&&(decide ((ByteArray.size r0)≤Go.maxLen)))&&(decide ((List.length b1)<Go.maxLen))) <|
 (gdE (EC.isL q26t (EC.encL q26t b4)) <|
 (Option.bind (qen number false r0 b2 (EC.decL q26t (EC.encL q26t b4))) fun r1 =>
 (gdE (EC.isL q26r (slOf (List.getD (List.getD (EC.encL q26r t12) (Int.toNat t14) []) 7 C.ne))) <|
 (Option.bind (qtp (EC.decL q26r (slOf (List.getD (List.getD (EC.encL q26r t12) (Int.toNat t14) []) 7 C.ne)))) fun r2 =>
 (gdE (EC.isL q26r (slOf (List.getD (List.getD (EC.encL q26r t12) (Int.toNat t14) []) 8 C.ne))) <|
 (Option.bind (qtp (EC.decL q26r (slOf (List.getD (List.getD (EC.encL q26r t12) (Int.toNat t14) []) 8 C.ne)))) fun r3 =>
 (gdE (EC.isL q26r (EC.encL q26r t12)) <|
 (gdE (EC.isL q26k (EC.encL q26k b0_1)) <|
 (gdE (EC.isL q26s (EC.encL q26s b0_3)) <|
 (gdE (EC.isL q26q (EC.encL q26q b0_4)) <|
 (gdE (EC.isL q26o (EC.encL q26o b3)) <|
 (gdE (EC.isL q26t (EC.encL q26t r1.2.2.2)) <|
 (qcm (IntKind.wrap .i64 (number+(IntKind.wrap .i64 ((IntKind.wrap .i64 (1+r2))+r3)))) (EC.decL q26r (EC.encL q26r t12)) t13 (IntKind.wrap .i64 (t14+1)) b0 (EC.decL q26k (EC.encL q26k b0_1)) b0_2 (EC.decL q26s (EC.encL q26s b0_3)) (EC.decL q26q (EC.encL q26q b0_4)) b0_5 b0_6 (putM b1 (q27s (List.getD (List.getD (EC.encL q26r t12) (Int.toNat t14) []) 10 C.ne)) r0) r1.2.2.1 (EC.decL q26o (EC.encL q26o b3)) (EC.decL q26t (EC.encL q26t r1.2.2.2)))))))))))))))))
 (gdE (EC.isL q26t (EC.encL q26t b4)) <|
 (Option.bind (qen number false ⟨#[]⟩ b2 (EC.decL q26t (EC.encL q26t b4))) fun r0 =>
 (gdE (EC.isL q26k (EC.encL q26k b0_1)) <|
 (gdE (EC.isL q26s (EC.encL q26s b0_3)) <|
 (gdE (EC.isL q26q (EC.encL q26q b0_4)) <|
 (gdE (EC.isL q26o (EC.encL q26o b3)) <|
 (gdE (EC.isL q26t (EC.encL q26t r0.2.2.2)) <|
 (some (.inl (false,((b0,((EC.decL q26k (EC.encL q26k b0_1)),(b0_2,((EC.decL q26s (EC.encL q26s b0_3)),((EC.decL q26q (EC.encL q26q b0_4)),(b0_5,((),(b0_6,())))))))),(b1,(r0.2.2.1,((EC.decL q26o (EC.encL q26o b3)),(EC.decL q26t (EC.encL q26t r0.2.2.2)))))))))))))))))))))
 (gdE (EC.isL q26r (EC.encL q26r t12)) <|
 (gdE (EC.isL q26k (EC.encL q26k b0_1)) <|
 (gdE (EC.isL q26s (EC.encL q26s b0_3)) <|
 (gdE (EC.isL q26q (EC.encL q26q b0_4)) <|
 (gdE (EC.isL q26o (EC.encL q26o b3)) <|
 (gdE (EC.isL q26t (EC.encL q26t b4)) <|
 (some (.inr (((),(number,((EC.decL q26r (EC.encL q26r t12)),(t13,(t14,false))))),((b0,((EC.decL q26k (EC.encL q26k b0_1)),(b0_2,((EC.decL q26s (EC.encL q26s b0_3)),((EC.decL q26q (EC.encL q26q b0_4)),(b0_5,((),(b0_6,())))))))),(b1,(b2,((EC.decL q26o (EC.encL q26o b3)),(EC.decL q26t (EC.encL q26t b4))))))))))))))))
theorem qco {number} {t12} {t13} {t14} {b0} {b0_1} {b0_2} {b0_3} {b0_4} {b0_5} {b0_6} {b1} {b2} {b3} {b4} {r} (h:qct number t12 t13 t14 b0 b0_1 b0_2 b0_3 b0_4 b0_5 b0_6 b1 b2 b3 b4=some r):qcm number t12 t13 t14 b0 b0_1 b0_2 b0_3 b0_4 b0_5 b0_6 b1 b2 b3 b4=some r :=
 qm5 (es:=q19p) (hs:=qkj) [] (by kernel_rfl) trivial trivial (by kernel_rfl) h
def qcn:=q27d Tryz.prog lv X0 2 (q270 (cdF Tryz.f61) 2) qcs qcp (fun x=>qcm x.1.2.1 x.1.2.2.1 x.1.2.2.2.1 x.1.2.2.2.2 x.2.1.1 x.2.1.2.1 x.2.1.2.2.1 x.2.1.2.2.2.1 x.2.1.2.2.2.2.1 x.2.1.2.2.2.2.2.1 x.2.1.2.2.2.2.2.2.2.1 x.2.2.1 x.2.2.2.1 x.2.2.2.2.1 x.2.2.2.2.2) (fun _ _ h=>qm4 h)
def qcx (s:(List S50)) (number:Int) (b0:ByteArray) (b0_1:(List S118)) (b0_2:ByteArray) (b0_3:(List S55)) (b0_4:(List Int)) (b0_5:Int) (b0_6:Nat) (b1:(List (ByteArray × ByteArray))) (b2:Nat) (b3:(List S45)) (b4:(List S62)):Option (Bool × (Bool × ((ByteArray × (List S118) × ByteArray × (List S55) × (List Int) × Int × Unit × Nat × Unit) × (List (ByteArray × ByteArray)) × Nat × (List S45) × (List S62)))) :=
 (gdE (EC.isL q26r (EC.encL q26r s)) <|
 (gdE (EC.isL q26k (EC.encL q26k b0_1)) <|
 (gdE (EC.isL q26s (EC.encL q26s b0_3)) <|
 (gdE (EC.isL q26q (EC.encL q26q b0_4)) <|
 (gdE (EC.isL q26o (EC.encL q26o b3)) <|
 (gdE (EC.isL q26t (EC.encL q26t b4)) <|
 (Option.bind (qcm number (EC.decL q26r (EC.encL q26r s)) (List.length (EC.encL q26r s):Int) 0 b0 (EC.decL q26k (EC.encL q26k b0_1)) b0_2 (EC.decL q26s (EC.encL q26s b0_3)) (EC.decL q26q (EC.encL q26q b0_4)) b0_5 b0_6 b1 b2 (EC.decL q26o (EC.encL q26o b3)) (EC.decL q26t (EC.encL q26t b4))) fun r0 =>
 (Sum.elim (fun r1=>(gdE (EC.isL q26k (EC.encL q26k r1.2.1.2.1)) <|
 (gdE (EC.isL q26s (EC.encL q26s r1.2.1.2.2.2.1)) <|
 (gdE (EC.isL q26q (EC.encL q26q r1.2.1.2.2.2.2.1)) <|
 (gdE (EC.isL q26o (EC.encL q26o r1.2.2.2.2.1)) <|
 (gdE (EC.isL q26t (EC.encL q26t r1.2.2.2.2.2)) <|
 (some (r1.1,(r1.1,((r1.2.1.1,((EC.decL q26k (EC.encL q26k r1.2.1.2.1)),(r1.2.1.2.2.1,((EC.decL q26s (EC.encL q26s r1.2.1.2.2.2.1)),((EC.decL q26q (EC.encL q26q r1.2.1.2.2.2.2.1)),(r1.2.1.2.2.2.2.2.1,((),(r1.2.1.2.2.2.2.2.2.2.1,())))))))),(r1.2.2.1,(r1.2.2.2.1,((EC.decL q26o (EC.encL q26o r1.2.2.2.2.1)),(EC.decL q26t (EC.encL q26t r1.2.2.2.2.2)))))))))))))))
 (fun r1=>(gdE (EC.isL q26k (EC.encL q26k r1.2.1.2.1)) <|
 (gdE (EC.isL q26s (EC.encL q26s r1.2.1.2.2.2.1)) <|
 (gdE (EC.isL q26q (EC.encL q26q r1.2.1.2.2.2.2.1)) <|
 (gdE (EC.isL q26o (EC.encL q26o r1.2.2.2.2.1)) <|
 (gdE (EC.isL q26t (EC.encL q26t r1.2.2.2.2.2)) <|
 (some (true,(true,((r1.2.1.1,((EC.decL q26k (EC.encL q26k r1.2.1.2.1)),(r1.2.1.2.2.1,((EC.decL q26s (EC.encL q26s r1.2.1.2.2.2.1)),((EC.decL q26q (EC.encL q26q r1.2.1.2.2.2.2.1)),(r1.2.1.2.2.2.2.2.1,((),(r1.2.1.2.2.2.2.2.2.2.1,())))))))),(r1.2.2.1,(r1.2.2.2.1,((EC.decL q26o (EC.encL q26o r1.2.2.2.2.1)),(EC.decL q26t (EC.encL q26t r1.2.2.2.2.2))))))))))))))) r0))))))))
theorem qcl {s} {number} {b0} {b0_1} {b0_2} {b0_3} {b0_4} {b0_5} {b0_6} {b1} {b2} {b3} {b4} {r} (h:qcx s number b0 b0_1 b0_2 b0_3 b0_4 b0_5 b0_6 b1 b2 b3 b4=some r):qcj s number b0 b0_1 b0_2 b0_3 b0_4 b0_5 b0_6 b1 b2 b3 b4=some r :=
 qis (fn:=Tryz.f61) (es:=q19p) (hs:=qkj) [qcn] (by kernel_rfl) rfl (by kernel_rfl) ⟨⟨_,rfl,rfl⟩,trivial⟩ trivial (by kernel_rfl) h
def qci (s:(List S50)) (m_:ByteArray) (m__1:(List S118)) (m__2:ByteArray) (m__3:(List S55)) (m__4:(List Int)) (b0:Nat) (b1:(List S62)):Option ((Nat × (Int × Int)) × ((Nat × (Int × Int)) × ((List S45) × Nat × (List S62)))) :=
 (gdE (EC.isL q26r (EC.encL q26r s)) <|
 (Option.bind (qui (EC.decL q26r (EC.encL q26r s))) fun r0 =>
 (Option.bind (q57 r0.1 r0.2) fun r1 =>
 (brE r1
 (gdE (EC.isL q26t (EC.encL q26t b1)) <|
 (some ((0,(r0.1,r0.2)),((0,(r0.1,r0.2)),((EC.decL q26o []),(b0,(EC.decL q26t (EC.encL q26t b1))))))))
 (gdE (EC.isL q26k (EC.encL q26k m__1)) <|
 (Option.bind (qbd m_ (EC.decL q26k (EC.encL q26k m__1)) m__2) fun r2 =>
 (Option.bind (q57 r2.1 r2.2) fun r3 =>
 (brE r3
 (Option.bind (q5d r2.1 (-3)) fun r4 =>
 (gdE (EC.isL q26t (EC.encL q26t b1)) <|
 (some ((0,(r4.1,r4.2)),((0,(r4.1,r4.2)),((EC.decL q26o []),(b0,(EC.decL q26t (EC.encL q26t b1)))))))))
 (gdE (EC.isL q26s (EC.encL q26s m__3)) <|
 (gdE (EC.isL q26q (EC.encL q26q m__4)) <|
 (Option.bind (qnv (EC.decL q26s (EC.encL q26s m__3)) (EC.decL q26q (EC.encL q26q m__4))) fun r4 =>
 (Option.bind (q57 r4.1.2.1 r4.1.2.2) fun r5 =>
 (brE r5
 (Option.bind (q5d r4.1.2.1 (-2)) fun r6 =>
 (gdE (EC.isL q26t (EC.encL q26t b1)) <|
 (some ((0,(r6.1,r6.2)),((0,(r6.1,r6.2)),((EC.decL q26o []),(b0,(EC.decL q26t (EC.encL q26t b1)))))))))
 (gdE (EC.isL q26r (EC.encL q26r s)) <|
 (gdE (EC.isL q26k (EC.encL q26k m__1)) <|
 (gdE (EC.isL q26s (EC.encL q26s m__3)) <|
 (gdE (EC.isL q26q (EC.encL q26q m__4)) <|
 (gdE (EC.isL q26t (EC.encL q26t b1)) <|
 (Option.bind (qcj (EC.decL q26r (EC.encL q26r s)) 0 m_ (EC.decL q26k (EC.encL q26k m__1)) m__2 (EC.decL q26s (EC.encL q26s m__3)) (EC.decL q26q (EC.encL q26q m__4)) ((r4.1.1:Nat):Int) 0 [] b0 (EC.decL q26o []) (EC.decL q26t (EC.encL q26t b1))) fun r6 =>
 (gdE (EC.isL q26o (EC.encL q26o r6.2.2.2.2.2.1)) <|
 (Option.bind (qca (EC.decL q26o (EC.encL q26o r6.2.2.2.2.2.1))) fun r7 =>
 (brE (!r7)
 (gdE ((((List.all [[(C.int Go.IntKind.i64 1),(C.str ⟨#[]⟩),(C.int Go.IntKind.i64 0)]] (fun (el:(List C))=>((List.length el)==3)))&&(List.all (EC.encL q26o r6.2.2.2.2.2.1) (fun (el:(List C))=>((List.length el)==3))))&&(decide (((((r6.2.2.1.2.2.2.2.2.2.2.1+(List.length [[(C.int Go.IntKind.i64 1),(C.str ⟨#[]⟩),(C.int Go.IntKind.i64 0)]]))+((r6.2.2.1.2.2.2.2.2.2.2.1+(List.length [[(C.int Go.IntKind.i64 1),(C.str ⟨#[]⟩),(C.int Go.IntKind.i64 0)]])) / 4))+192)*32)≤281474976710656)))&&(decide ((r6.2.2.1.2.2.2.2.2.2.2.1+(List.length [[(C.int Go.IntKind.i64 1),(C.str ⟨#[]⟩),(C.int Go.IntKind.i64 0)]]))≤9223372036854775807))) <|
 (Option.bind q6e fun r8 =>
 (gdE (EC.isL q26o ((EC.encL q26o r6.2.2.2.2.2.1)++[[(C.int Go.IntKind.i64 1),(C.str ⟨#[]⟩),(C.int Go.IntKind.i64 0)]])) <|
 (gdE (EC.isL q26t (EC.encL q26t r6.2.2.2.2.2.2)) <|
 (some (((r6.2.2.1.2.2.2.2.2.2.2.1+(List.length [[(C.int Go.IntKind.i64 1),(C.str ⟨#[]⟩),(C.int Go.IntKind.i64 0)]])),(r8.1,r8.2)),(((r6.2.2.1.2.2.2.2.2.2.2.1+(List.length [[(C.int Go.IntKind.i64 1),(C.str ⟨#[]⟩),(C.int Go.IntKind.i64 0)]])),(r8.1,r8.2)),((EC.decL q26o ((EC.encL q26o r6.2.2.2.2.2.1)++[[(C.int Go.IntKind.i64 1),(C.str ⟨#[]⟩),(C.int Go.IntKind.i64 0)]])),(r6.2.2.2.2.1,(EC.decL q26t (EC.encL q26t r6.2.2.2.2.2.2)))))))))))
 (Option.bind q6e fun r8 =>
 (gdE (EC.isL q26o (EC.encL q26o r6.2.2.2.2.2.1)) <|
 (gdE (EC.isL q26t (EC.encL q26t r6.2.2.2.2.2.2)) <|
 (some ((r6.2.2.1.2.2.2.2.2.2.2.1,(r8.1,r8.2)),((r6.2.2.1.2.2.2.2.2.2.2.1,(r8.1,r8.2)),((EC.decL q26o (EC.encL q26o r6.2.2.2.2.2.1)),(r6.2.2.2.2.1,(EC.decL q26t (EC.encL q26t r6.2.2.2.2.2.2))))))))))))))))))))))))))))))))
theorem qce {s} {m_} {m__1} {m__2} {m__3} {m__4} {b0} {b1} {r} (h:qci s m_ m__1 m__2 m__3 m__4 b0 b1=some r):qcc s m_ m__1 m__2 m__3 m__4 b0 b1=some r :=
 qis (fn:=Tryz.f37) (es:=q19p) (hs:=qkj) [] (by kernel_rfl) rfl (by kernel_rfl) trivial trivial (by kernel_rfl) h
def qev:Cod (V × List B) ((Nat × Nat × (Int × Int)) × ((List S62) × (List S45))):=(cPair (vTup (q279 (vRow 0) (q279 (vRow 1) (q27b (vAgg (q279 (vC (cInt .i64)) (q27b (vC (cInt .i64))))))))) (q279 (bRow q26t) (q27b (bRow q26o))))
def qey (s:(List S50)) (m_Envelope_From:ByteArray) (m_Envelope_To:(List S118)) (m_Envelope_Id:ByteArray) (m_Message_Fields:(List S55)) (m_Message_Body:(List Int)):Option ((Nat × Nat × (Int × Int)) × ((List S62) × (List S45))):=fS Tryz.prog lv X0 22 qeu qev (s,(m_Envelope_From,m_Envelope_To,m_Envelope_Id,m_Message_Fields,m_Message_Body))
def qez (s:(List S50)) (m_Envelope_From:ByteArray) (m_Envelope_To:(List S118)) (m_Envelope_Id:ByteArray) (m_Message_Fields:(List S55)) (m_Message_Body:(List Int)):Option ((Nat × Nat × (Int × Int)) × ((List S62) × (List S45))) :=
 (gdE (EC.isL q26r (EC.encL q26r s)) <|
 (gdE (EC.isL q26k (EC.encL q26k m_Envelope_To)) <|
 (gdE (EC.isL q26s (EC.encL q26s m_Message_Fields)) <|
 (gdE (EC.isL q26q (EC.encL q26q m_Message_Body)) <|
 (Option.bind (qcc (EC.decL q26r (EC.encL q26r s)) m_Envelope_From (EC.decL q26k (EC.encL q26k m_Envelope_To)) m_Envelope_Id (EC.decL q26s (EC.encL q26s m_Message_Fields)) (EC.decL q26q (EC.encL q26q m_Message_Body)) 0 (EC.decL q26t [])) fun r0 =>
 (Option.bind (q57 r0.1.2.1 r0.1.2.2) fun r1 =>
 (brE r1
 (some ((0,(0,(r0.1.2.1,r0.1.2.2))),((EC.decL q26t []),(EC.decL q26o []))))
 (gdE (EC.isL q26t (EC.encL q26t r0.2.2.2.2)) <|
 (gdE (EC.isL q26o (EC.encL q26o r0.2.2.1)) <|
 (some ((r0.2.2.2.1,(r0.1.1,(r0.1.2.1,r0.1.2.2))),((EC.decL q26t (EC.encL q26t r0.2.2.2.2)),(EC.decL q26o (EC.encL q26o r0.2.2.1))))))))))))))
theorem qex {s} {m_Envelope_From} {m_Envelope_To} {m_Envelope_Id} {m_Message_Fields} {m_Message_Body} {r} (h:qez s m_Envelope_From m_Envelope_To m_Envelope_Id m_Message_Fields m_Message_Body=some r):qey s m_Envelope_From m_Envelope_To m_Envelope_Id m_Message_Fields m_Message_Body=some r :=
 qf2 (es:=q19p) (hs:=qkj) [] Tryz.func22 rfl (by kernel_rfl) rfl (by kernel_rfl) (by kernel_rfl) trivial trivial (by kernel_rfl) h
def qew:=entS Tryz.prog lv X0 22 [] qeu qev (fun x=>qey x.1 x.2.1 x.2.2.1 x.2.2.2.1 x.2.2.2.2.1 x.2.2.2.2.2) (fun _ _ h=>qf1 h)
def qzu:=qew::q19p
end
end Go.Proofs.YtokahibbkdbndaaGreatDoor
